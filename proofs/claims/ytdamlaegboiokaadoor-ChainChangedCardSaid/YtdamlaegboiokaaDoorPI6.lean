/-
  The statement 'ChainChanged' as its tied card: for every input the law returns true, and each argument reads as it read before; the listed variables are as the program's text lays them. No other condition.
-/
import Derived.Test.YtdamlaegboiokaaDoorPG5
import Derived.Test.YtdamlaegboiokaaDoorPG1
import Derived.LaidMore
import Derived.Stop.Joined
import Derived.Stop.LaidErr
import Derived.Lib.LaidTab
import Derived.ChangeSlices
import Derived.MakeChecks
import Derived.DataElems
import Derived.Test.YtdamlaegboiokaaDoorCards
import Derived.Test.YtdamlaegboiokaaDoorTie
import Derived.SevenTiedAt
set_option linter.unusedSimpArgs false
set_option linter.unusedVariables false
namespace Go.Proofs.YtdamlaegboiokaaDoor
open Go Go.RowKit
def diffE : List Lk → List Lk → Option Nat
  | y :: a, z :: b => if slE y z then (diffE a b).map (· + 1) else some 0
  | _, _ => none
def sameTo (a b : List Lk) (i : Nat) : Prop := ∀ (j : Nat) (y z : Lk), j < i → a[j]? = some y → b[j]? = some z → slE y z
theorem sameTo_zero (a b : List Lk) : sameTo a b 0 := fun j y z h => absurd h (Nat.not_lt_zero _)
theorem sameTo_succ {a b : List Lk} {i : Nat} {y z : Lk} (h : sameTo a b i) (hy : a[i]? = some y) (hz : b[i]? = some z) (hs : slE y z) : sameTo a b (i + 1) := fun j y' z' hj h1 h2 => by
  by_cases e : j = i
  · subst e; rw [hy] at h1; rw [hz] at h2; cases h1; cases h2; exact hs
  exact h j y' z' (by omega) h1 h2
theorem diffE_at : ∀ {a b : List Lk} {i : Nat} {y z : Lk}, sameTo a b i → a[i]? = some y → b[i]? = some z → ¬ slE y z → diffE a b = some i
  | [], _, _, _, _, _, h, _, _ => by simp at h
  | _ :: _, [], _, _, _, _, _, h, _ => by simp at h
  | y' :: a, z' :: b, 0, y, z, _, h1, h2, h3 => by
    obtain rfl : y' = y := by simpa using h1
    obtain rfl : z' = z := by simpa using h2
    simp only [diffE, if_neg h3]
  | y' :: a, z' :: b, i + 1, y, z, h, h1, h2, h3 => by
    have h0 : slE y' z' := h 0 y' z' (by omega) rfl rfl
    simp only [diffE, if_pos h0]
    rw [diffE_at (i := i) (fun j p q hj hp hq => h (j + 1) p q (by omega) (by simpa using hp) (by simpa using hq)) (by simpa using h1) (by simpa using h2) h3]
    rfl
theorem diffE_none : ∀ {a b : List Lk}, sameTo a b (min a.length b.length) → diffE a b = none
  | [], _, _ => rfl
  | _ :: _, [], _ => rfl
  | y :: a, z :: b, h => by
    have h0 : slE y z := h 0 y z (by simp) rfl rfl
    simp only [diffE, if_pos h0]
    rw [diffE_none (a := a) (b := b) fun j p q hj hp hq => h (j + 1) p q (by simp only [List.length_cons]; omega) (by simpa using hp) (by simpa using hq)]
    rfl
def hdsD (a b : List Lk) : Prop := ∃ y z, a[0]? = some y ∧ b[0]? = some z ∧ y.node ≠ z.node
noncomputable def partE (a b : List Lk) : Int × Bool × Int := if chkE a ≠ 0 then (0, false, chkE a) else if chkE b ≠ 0 then (0, false, chkE b) else @ite _ (hdsD a b) (Classical.propDecidable _) (0, false, 80) (match diffE a b with
  | some i => ((i : Int), true, 0)
  | none => (0, false, 0))
theorem partE_a {a b : List Lk} (h : chkE a ≠ 0) : partE a b = (0, false, chkE a) := by unfold partE; rw [if_pos h]
theorem partE_b {a b : List Lk} (h : chkE a = 0) (h2 : chkE b ≠ 0) : partE a b = (0, false, chkE b) := by unfold partE; rw [if_neg (by rw [h]; simp), if_pos h2]
theorem partE_d {a b : List Lk} (h : chkE a = 0) (h2 : chkE b = 0) (h3 : hdsD a b) : partE a b = (0, false, 80) := by unfold partE; rw [if_neg (by rw [h]; simp), if_neg (by rw [h2]; simp), if_pos h3]
theorem partE_at {a b : List Lk} {i : Nat} (h : chkE a = 0) (h2 : chkE b = 0) (h3 : ¬ hdsD a b) (h4 : diffE a b = some i) : partE a b = ((i : Int), true, 0) := by unfold partE; rw [if_neg (by rw [h]; simp), if_neg (by rw [h2]; simp), if_neg h3, h4]
theorem partE_no {a b : List Lk} (h : chkE a = 0) (h2 : chkE b = 0) (h3 : ¬ hdsD a b) (h4 : diffE a b = none) : partE a b = (0, false, 0) := by unfold partE; rw [if_neg (by rw [h]; simp), if_neg (by rw [h2]; simp), if_neg h3, h4]
theorem not_hds {a b : List Lk} (h : ∀ y z, a[0]? = some y → b[0]? = some z → y.node = z.node) : ¬ hdsD a b := by
  rintro ⟨y, z, h1, h2, h3⟩
  exact h3 (h y z h1 h2)
theorem min_nat (x y : Nat) : SX.minV (.int .i64 (x : Int)) (.int .i64 (y : Int)) = some (.int .i64 ((min x y : Nat) : Int)) := by
  simp only [SX.minV, if_true]
  congr 2
  show minI _ _ = _
  unfold minI
  split <;> omega
def K2 (A : Option Addr) (n c : Nat) (la : List Lk) (B : Option Addr) (m d : Nat) (lb : List Lk) (s : Value) (z : Nat) (xs : List Value) : Prop := KL A n c la s z xs ∨ KL B m d lb s z xs
theorem K2_laid (A : Option Addr) (n c : Nat) (la : List Lk) (B : Option Addr) (m d : Nat) (lb : List Lk) : LaidK (K2 A n c la B m d lb) := ⟨.inl (KL_laid A n c la).1, .inl (KL_laid A n c la).2⟩
def RQ5 (K : Value → Nat → List Value → Prop) (f : FuncId) (xs : List SX.Arg) (v : Value) : Prop :=
  (f = 16 ∧ ∃ (u : Value) (ls : List Lk), xs = [⟨u, 35, lkL ls⟩] ∧ LaidK K ∧ ls.length ≤ 4611686018427387904 ∧ (∀ z ∈ ls, z.kn K ∧ z.fit) ∧ v = .int .i64 (chkE ls)) ∨
  (f = 24 ∧ ∃ y z : Lk, xs = [⟨valLk y, 0, []⟩, ⟨valLk z, 0, []⟩] ∧ y.kn K ∧ z.kn K ∧ v = .bool (decide (slE y z)))
def shpQ5 : FuncId → Option SX.Sh := fun f => if f = 16 then some .one else if f = 24 then some .one else none
noncomputable def cxQ5 (K A : Value → Nat → List Value → Prop) : SX.Cx := { P := Tryd.prog, R := RQ5, shp := shpQ5, K := K, A := A, trm := true }
theorem okQ5 (K A : Value → Nat → List Value → Prop) : (cxQ5 K A).Ok := by
  refine SX.Cx.ok_of (fun _ => rfl) ?_
  intro K f xs v W hR hrd hKf
  rcases hR with ⟨rfl, u, ls, rfl, hL, hb, hk, rfl⟩ | ⟨rfl, y, z, rfl, hy, hz, rfl⟩
  · obtain ⟨A, n, c, rfl, hr, hc, hln⟩ := lk_arg (hrd ⟨u, 35, lkL ls⟩ (by simp))
    exact (check_any ls A n c W hr hc (by omega) (fun z hz => (hk z hz).1.rd hKf) (fun z hz => (hk z hz).2) (laid_of hL hKf)).mono fun e w' h => SX.plainOk rfl h
  exact (psl_any y z W (hy.rd hKf) (hz.rd hKf)).mono fun e w' h => SX.plainOk rfl h
def tree_part : SX.Tree :=
(.df (.call 16 [(.ext 35)]) [(.q 0)] .one
(.df (.bin .neq 26) [(.q 2), (.i 0)] .one
(.br 3 []
(.ret (.t [(.i 0), (.k (.bool false)), (.q 2)]) [] [])
(.df (.call 16 [(.ext 35)]) [(.q 1)] .one
(.df (.bin .neq 26) [(.q 4), (.i 0)] .one
(.br 5 []
(.ret (.t [(.i 0), (.k (.bool false)), (.q 4)]) [] [])
(.df (.len false) [(.q 0)] .one
(.df (.bin .gtr 3) [(.q 6), (.i 0)] .one
(.br 7 []
(.df (.len false) [(.q 1)] .one
(.df (.bin .gtr 3) [(.q 8), (.i 0)] .one
(.br 9 []
(.df .bnd [(.q 0), (.i 0)] .one
(.df .bnd [(.q 0), (.i 0)] .one
(.df (.elem 35 0) [(.q 0), (.i 0)] .one
(.df .bnd [(.q 1), (.i 0)] .one
(.df .bnd [(.q 1), (.i 0)] .one
(.df (.elem 35 0) [(.q 1), (.i 0)] .one
(.df (.bin .neq 3) [(.q 12), (.q 15)] .one
(.br 16 []
(.ret (.t [(.i 0), (.k (.bool false)), (.i 80)]) [] [])
(.df (.len false) [(.q 0)] .one
(.df (.len false) [(.q 1)] .one
(.df .min [(.q 17), (.q 18)] .one
(.loop [(.i 0)] [.one]
(.df (.bin .lss 3) [(.q 20), (.q 19)] .one
(.br 21 []
(.df .bnd [(.q 0), (.q 20)] .one
(.df (.elems 35 0 35) [(.q 0), (.q 20)] (.ag 35)
(.df .bnd [(.q 1), (.q 20)] .one
(.df (.elems 35 0 35) [(.q 1), (.q 20)] (.ag 35)
(.df (.call 24 [.no, .no]) [(.a (SX.Y 23 0 35)), (.a (SX.Y 25 0 35))] .one
(.df .not [(.q 26)] .one
(.br 27 []
(.ret (.t [(.q 20), (.k (.bool true)), (.i 0)]) [] [])
(.df (.bin .add 3) [(.q 20), (.i 1)] .one
(.again 0 [(.q 28)])))))))))
(.ret (.t [(.i 0), (.k (.bool false)), (.i 0)]) [] [])))))))))))))))
(.df (.len false) [(.q 0)] .one
(.df (.len false) [(.q 1)] .one
(.df .min [(.q 10), (.q 11)] .one
(.loop [(.i 0)] [.one]
(.df (.bin .lss 3) [(.q 13), (.q 12)] .one
(.br 14 []
(.df .bnd [(.q 0), (.q 13)] .one
(.df (.elems 35 0 35) [(.q 0), (.q 13)] (.ag 35)
(.df .bnd [(.q 1), (.q 13)] .one
(.df (.elems 35 0 35) [(.q 1), (.q 13)] (.ag 35)
(.df (.call 24 [.no, .no]) [(.a (SX.Y 16 0 35)), (.a (SX.Y 18 0 35))] .one
(.df .not [(.q 19)] .one
(.br 20 []
(.ret (.t [(.q 13), (.k (.bool true)), (.i 0)]) [] [])
(.df (.bin .add 3) [(.q 13), (.i 1)] .one
(.again 0 [(.q 21)])))))))))
(.ret (.t [(.i 0), (.k (.bool false)), (.i 0)]) [] []))))))))))
(.df (.len false) [(.q 0)] .one
(.df (.len false) [(.q 1)] .one
(.df .min [(.q 8), (.q 9)] .one
(.loop [(.i 0)] [.one]
(.df (.bin .lss 3) [(.q 11), (.q 10)] .one
(.br 12 []
(.df .bnd [(.q 0), (.q 11)] .one
(.df (.elems 35 0 35) [(.q 0), (.q 11)] (.ag 35)
(.df .bnd [(.q 1), (.q 11)] .one
(.df (.elems 35 0 35) [(.q 1), (.q 11)] (.ag 35)
(.df (.call 24 [.no, .no]) [(.a (SX.Y 14 0 35)), (.a (SX.Y 16 0 35))] .one
(.df .not [(.q 17)] .one
(.br 18 []
(.ret (.t [(.q 11), (.k (.bool true)), (.i 0)]) [] [])
(.df (.bin .add 3) [(.q 11), (.i 1)] .one
(.again 0 [(.q 19)])))))))))
(.ret (.t [(.i 0), (.k (.bool false)), (.i 0)]) [] []))))))))))))))))
def args_part : List SX.V := [.x 0 [], .x 1 []]
set_option maxRecDepth 100000 in
theorem run_part (K A : Value → Nat → List Value → Prop) : (SX.run (cxQ5 K A) ⟨fun f => true, [⟨23, 2, [(.s 14, .one)]⟩], 0, 100⟩ 100000 0 (SX.door 12 Tryd.f12 args_part [.one, .one]) [.code (Tryd.f12.body.getD .skip), .top Tryd.f12]).strip = tree_part := by kernel_rfl
set_option maxRecDepth 100000 in
set_option maxHeartbeats 4000000 in
theorem part_any (la : List Lk) (A : Option Addr) (n c : Nat) (lb : List Lk) (B : Option Addr) (m d : Nat) (w : World) (hr : Rd w 35 A n (lkL la)) (hc : n ≤ c) (hn : n ≤ 4611686018427387904) (hd : ∀ z ∈ la, z.rd w) (hfit : ∀ z ∈ la, z.fit) (hr2 : Rd w 35 B m (lkL lb)) (hc2 : m ≤ d) (hn2 : m ≤ 4611686018427387904) (hd2 : ∀ z ∈ lb, z.rd w) (hfit2 : ∀ z ∈ lb, z.fit) (hlaid : Laid w) : Calls Tryd.prog 12 #[.slice A n c, .slice B m d] w fun e w' => e = .returned (.tuple #[.int .i64 (partE la lb).1, .bool (partE la lb).2.1, .int .i64 (partE la lb).2.2]) ∧ Below w.heap.size w w' := by
  refine SX.calls_of_run (C := cxQ5 (K2 A n c la B m d lb) (fun _ _ _ => False)) (G := ⟨fun f => true, [⟨23, 2, [(.s 14, .one)]⟩], 0, 100⟩) (args := args_part) (sh := [.one, .one]) (ρ := [.slice A n c, .slice B m d]) 100000 tree_part (okQ5 _ _) Tryd.func12 rfl (run_part _ _) (by kernel_rfl) (by kernel_rfl) (by kernel_rfl) ?_ ?_
  · rintro W hW s sz cells (h | h)
    · exact KL_rd hW hr hd hlaid s sz cells h
    exact KL_rd hW hr2 hd2 hlaid s sz cells h
  have hA := SX.rd_some hr
  have hlc : (lkL la).length = n * 35 := hr.1
  have hln : la.length = n := by rw [lkL_len] at hlc; omega
  have hB := SX.rd_some hr2
  have hlc2 : (lkL lb).length = m * 35 := hr2.1
  have hlm : lb.length = m := by rw [lkL_len] at hlc2; omega
  unfold tree_part
  refine SX.VC_df (.int .i64 ((chkE la))) (fun α => ⟨[⟨.slice A n c, 35, lkL la⟩], ⟨by kernel_rfl, by kernel_rfl, .inl (.inl (SX.SubK.full hlc hc)), trivial⟩, .inl ⟨rfl, _, la, rfl, K2_laid _ _ _ _ _ _ _ _, by omega, fun y hy => ⟨.inl (.inl (KL_data hy)), hfit y hy⟩, rfl⟩, SX.noAli rfl⟩) ((by kernel_rfl)) ?_
  refine SX.D (.bool (((chkE la) : Int) != 0)) ?_
  refine SX.B (((chkE la) : Int) != 0) (fun h3 => ?_) (fun h3 => ?_)
  · try simp only [NRM] at h3
    have hq : partE la lb = _ := partE_a (by simpa using h3)
    exact SX.F (.tuple #[.int .i64 0, .bool false, .int .i64 ((chkE la))]) (by rw [hq])
  try simp only [NRM] at h3
  refine SX.VC_df (.int .i64 ((chkE lb))) (fun α => ⟨[⟨.slice B m d, 35, lkL lb⟩], ⟨by kernel_rfl, by kernel_rfl, .inr (.inl (SX.SubK.full hlc2 hc2)), trivial⟩, .inl ⟨rfl, _, lb, rfl, K2_laid _ _ _ _ _ _ _ _, by omega, fun y hy => ⟨.inl (.inr (KL_data hy)), hfit2 y hy⟩, rfl⟩, SX.noAli rfl⟩) ((by kernel_rfl)) ?_
  refine SX.D (.bool (((chkE lb) : Int) != 0)) ?_
  refine SX.B (((chkE lb) : Int) != 0) (fun h5 => ?_) (fun h5 => ?_)
  · try simp only [NRM] at h5
    have hq : partE la lb = _ := partE_b (by simpa using h3) (by simpa using h5)
    exact SX.F (.tuple #[.int .i64 0, .bool false, .int .i64 ((chkE lb))]) (by rw [hq])
  try simp only [NRM] at h5
  refine SX.D (.int .i64 (((n : Nat) : Int))) ?_
  refine SX.D (.bool (decide (((n : Nat) : Int) > 0))) ?_
  refine SX.B (decide (((n : Nat) : Int) > 0)) (fun h7 => ?_) (fun h7 => ?_)
  · try simp only [NRM] at h7
    refine SX.D (.int .i64 (((m : Nat) : Int))) ?_
    refine SX.D (.bool (decide (((m : Nat) : Int) > 0))) ?_
    refine SX.B (decide (((m : Nat) : Int) > 0)) (fun h9 => ?_) (fun h9 => ?_)
    · try simp only [NRM] at h9
      obtain ⟨y0, hy0⟩ : ∃ y0, la[0]? = some y0 := ⟨_, List.getElem?_eq_getElem (by omega)⟩
      obtain ⟨z0, hz0⟩ : ∃ z0, lb[0]? = some z0 := ⟨_, List.getElem?_eq_getElem (by omega)⟩
      refine SX.E (.bool true) (fun α => SX.extBnd (A := A) (n := n) (c := c) (j := 0) hA (by kernel_rfl) (by kernel_rfl) (by omega)) ?_
      refine SX.E (.bool true) (fun α => SX.extBnd (A := A) (n := n) (c := c) (j := 0) hA (by kernel_rfl) (by kernel_rfl) (by omega)) ?_
      refine SX.E (.int .i64 y0.node) (fun α => SX.extElem (o := 0) (v := .int .i64 y0.node) (f := cellsLk) (l := la) (A := A) (n := n) (c := c) (j := 0) (z := y0) (fun _ => rfl) hA (by kernel_rfl) (by kernel_rfl) (by omega) (.inl (.inl (SX.SubK.full hlc hc))) hy0 (by decide) (by kernel_rfl)) ?_
      refine SX.E (.bool true) (fun α => SX.extBnd (A := B) (n := m) (c := d) (j := 0) hB (by kernel_rfl) (by kernel_rfl) (by omega)) ?_
      refine SX.E (.bool true) (fun α => SX.extBnd (A := B) (n := m) (c := d) (j := 0) hB (by kernel_rfl) (by kernel_rfl) (by omega)) ?_
      refine SX.E (.int .i64 z0.node) (fun α => SX.extElem (o := 0) (v := .int .i64 z0.node) (f := cellsLk) (l := lb) (A := B) (n := m) (c := d) (j := 0) (z := z0) (fun _ => rfl) hB (by kernel_rfl) (by kernel_rfl) (by omega) (.inr (.inl (SX.SubK.full hlc2 hc2))) hz0 (by decide) (by kernel_rfl)) ?_
      refine SX.D (.bool ((y0.node : Int) != z0.node)) ?_
      refine SX.B ((y0.node : Int) != z0.node) (fun h16 => ?_) (fun h16 => ?_)
      · try simp only [NRM] at h16
        have hq : partE la lb = _ := partE_d (by simpa using h3) (by simpa using h5) ⟨y0, z0, hy0, hz0, by simpa using h16⟩
        exact SX.F (.tuple #[.int .i64 0, .bool false, .int .i64 80]) (by rw [hq])
      try simp only [NRM] at h16
      refine SX.D (.int .i64 (((n : Nat) : Int))) ?_
      refine SX.D (.int .i64 (((m : Nat) : Int))) ?_
      refine SX.E (.int .i64 ((((min n m) : Nat) : Int))) (fun α => Eq.trans (b := SX.minV (.int .i64 (n : Int)) (.int .i64 (m : Int))) (by kernel_rfl) (min_nat n m)) ?_
      refine SX.VC_loop (fun xs => ∃ (i : Nat), xs = [.int .i64 (i : Int)] ∧ i ≤ min n m ∧ sameTo la lb i) (fun xs => match xs with | .int _ i :: _ => n - i.toNat | _ => 0) (fun α => ⟨0, by kernel_rfl, by omega, sameTo_zero la lb⟩) ?_
      rintro xs - ⟨i, rfl, hin, hok⟩
      refine SX.D (.bool (decide (((i : Nat) : Int) < (((min n m) : Nat) : Int)))) ?_
      refine SX.B (decide (((i : Nat) : Int) < (((min n m) : Nat) : Int))) (fun h21 => ?_) (fun h21 => ?_)
      · try simp only [NRM] at h21
        obtain ⟨y, hy⟩ : ∃ y, la[i]? = some y := ⟨_, List.getElem?_eq_getElem (by omega)⟩
        obtain ⟨z, hz⟩ : ∃ z, lb[i]? = some z := ⟨_, List.getElem?_eq_getElem (by omega)⟩
        have hym := List.mem_of_getElem? hy
        have hzm := List.mem_of_getElem? hz
        refine SX.E (.bool true) (fun α => SX.extBnd (A := A) (n := n) (c := c) (j := i) hA (by kernel_rfl) (by kernel_rfl) (by omega)) ?_
        refine SX.E (.agg (cellsLk y).toArray) (fun α => SX.extElems (f := cellsLk) (l := la) (A := A) (n := n) (c := c) (j := i) (z := y) (fun _ => rfl) hA (by kernel_rfl) (by kernel_rfl) (by omega) (.inl (.inl (SX.SubK.full hlc hc))) hy) ?_
        refine SX.E (.bool true) (fun α => SX.extBnd (A := B) (n := m) (c := d) (j := i) hB (by kernel_rfl) (by kernel_rfl) (by omega)) ?_
        refine SX.E (.agg (cellsLk z).toArray) (fun α => SX.extElems (f := cellsLk) (l := lb) (A := B) (n := m) (c := d) (j := i) (z := z) (fun _ => rfl) hB (by kernel_rfl) (by kernel_rfl) (by omega) (.inr (.inl (SX.SubK.full hlc2 hc2))) hz) ?_
        refine SX.E (.bool (decide (slE y z))) (fun α => ⟨[⟨valLk y, 0, []⟩, ⟨valLk z, 0, []⟩], ⟨by kernel_rfl, by kernel_rfl, by kernel_rfl, by kernel_rfl, trivial⟩, .inr (⟨rfl, y, z, rfl, .inl (.inl (KL_data hym)), .inl (.inr (KL_data hzm)), rfl⟩), SX.noAli rfl⟩) ?_
        refine SX.D (.bool (!(decide (slE y z)))) ?_
        refine SX.B (!(decide (slE y z))) (fun h27 => ?_) (fun h27 => ?_)
        · try simp only [NRM] at h27
          have hq : partE la lb = _ := partE_at (by simpa using h3) (by simpa using h5) (not_hds fun y z h1 h2 => by rw [hy0] at h1; rw [hz0] at h2; cases h1; cases h2; simpa using h16) (diffE_at hok hy hz (by simpa using h27))
          exact SX.F (.tuple #[.int .i64 (((i : Nat) : Int)), .bool true, .int .i64 0]) (by rw [hq])
        try simp only [NRM] at h27
        refine SX.E (.int .i64 (((i + 1 : Nat) : Int))) (fun α => SX.W1 i) ?_
        exact SX.VC_again fun α => ⟨⟨i + 1, by kernel_rfl, by omega, sameTo_succ hok hy hz (by simpa using h27)⟩, cast (by kernel_rfl) (show n - ((i + 1 : Nat) : Int).toNat < n - (i : Int).toNat by omega)⟩
      try simp only [NRM] at h21
      have hq : partE la lb = _ := partE_no (by simpa using h3) (by simpa using h5) (not_hds fun y z h1 h2 => by rw [hy0] at h1; rw [hz0] at h2; cases h1; cases h2; simpa using h16) (diffE_none (by rw [hln, hlm, show min n m = i by omega]; exact hok))
      exact SX.F (.tuple #[.int .i64 0, .bool false, .int .i64 0]) (by rw [hq])
    try simp only [NRM] at h9
    refine SX.D (.int .i64 (((n : Nat) : Int))) ?_
    refine SX.D (.int .i64 (((m : Nat) : Int))) ?_
    refine SX.E (.int .i64 ((((min n m) : Nat) : Int))) (fun α => Eq.trans (b := SX.minV (.int .i64 (n : Int)) (.int .i64 (m : Int))) (by kernel_rfl) (min_nat n m)) ?_
    refine SX.VC_loop (fun xs => ∃ (i : Nat), xs = [.int .i64 (i : Int)] ∧ i ≤ min n m ∧ sameTo la lb i) (fun xs => match xs with | .int _ i :: _ => n - i.toNat | _ => 0) (fun α => ⟨0, by kernel_rfl, by omega, sameTo_zero la lb⟩) ?_
    rintro xs - ⟨i, rfl, hin, hok⟩
    refine SX.D (.bool (decide (((i : Nat) : Int) < (((min n m) : Nat) : Int)))) ?_
    refine SX.B (decide (((i : Nat) : Int) < (((min n m) : Nat) : Int))) (fun h14 => ?_) (fun h14 => ?_)
    · try simp only [NRM] at h14
      obtain ⟨y, hy⟩ : ∃ y, la[i]? = some y := ⟨_, List.getElem?_eq_getElem (by omega)⟩
      obtain ⟨z, hz⟩ : ∃ z, lb[i]? = some z := ⟨_, List.getElem?_eq_getElem (by omega)⟩
      have hym := List.mem_of_getElem? hy
      have hzm := List.mem_of_getElem? hz
      refine SX.E (.bool true) (fun α => SX.extBnd (A := A) (n := n) (c := c) (j := i) hA (by kernel_rfl) (by kernel_rfl) (by omega)) ?_
      refine SX.E (.agg (cellsLk y).toArray) (fun α => SX.extElems (f := cellsLk) (l := la) (A := A) (n := n) (c := c) (j := i) (z := y) (fun _ => rfl) hA (by kernel_rfl) (by kernel_rfl) (by omega) (.inl (.inl (SX.SubK.full hlc hc))) hy) ?_
      refine SX.E (.bool true) (fun α => SX.extBnd (A := B) (n := m) (c := d) (j := i) hB (by kernel_rfl) (by kernel_rfl) (by omega)) ?_
      refine SX.E (.agg (cellsLk z).toArray) (fun α => SX.extElems (f := cellsLk) (l := lb) (A := B) (n := m) (c := d) (j := i) (z := z) (fun _ => rfl) hB (by kernel_rfl) (by kernel_rfl) (by omega) (.inr (.inl (SX.SubK.full hlc2 hc2))) hz) ?_
      refine SX.E (.bool (decide (slE y z))) (fun α => ⟨[⟨valLk y, 0, []⟩, ⟨valLk z, 0, []⟩], ⟨by kernel_rfl, by kernel_rfl, by kernel_rfl, by kernel_rfl, trivial⟩, .inr (⟨rfl, y, z, rfl, .inl (.inl (KL_data hym)), .inl (.inr (KL_data hzm)), rfl⟩), SX.noAli rfl⟩) ?_
      refine SX.D (.bool (!(decide (slE y z)))) ?_
      refine SX.B (!(decide (slE y z))) (fun h20 => ?_) (fun h20 => ?_)
      · try simp only [NRM] at h20
        have hq : partE la lb = _ := partE_at (by simpa using h3) (by simpa using h5) (not_hds fun y z h1 h2 => absurd (List.getElem?_eq_some_iff.1 h2).1 (by omega)) (diffE_at hok hy hz (by simpa using h20))
        exact SX.F (.tuple #[.int .i64 (((i : Nat) : Int)), .bool true, .int .i64 0]) (by rw [hq])
      try simp only [NRM] at h20
      refine SX.E (.int .i64 (((i + 1 : Nat) : Int))) (fun α => SX.W1 i) ?_
      exact SX.VC_again fun α => ⟨⟨i + 1, by kernel_rfl, by omega, sameTo_succ hok hy hz (by simpa using h20)⟩, cast (by kernel_rfl) (show n - ((i + 1 : Nat) : Int).toNat < n - (i : Int).toNat by omega)⟩
    try simp only [NRM] at h14
    have hq : partE la lb = _ := partE_no (by simpa using h3) (by simpa using h5) (not_hds fun y z h1 h2 => absurd (List.getElem?_eq_some_iff.1 h2).1 (by omega)) (diffE_none (by rw [hln, hlm, show min n m = i by omega]; exact hok))
    exact SX.F (.tuple #[.int .i64 0, .bool false, .int .i64 0]) (by rw [hq])
  try simp only [NRM] at h7
  refine SX.D (.int .i64 (((n : Nat) : Int))) ?_
  refine SX.D (.int .i64 (((m : Nat) : Int))) ?_
  refine SX.E (.int .i64 ((((min n m) : Nat) : Int))) (fun α => Eq.trans (b := SX.minV (.int .i64 (n : Int)) (.int .i64 (m : Int))) (by kernel_rfl) (min_nat n m)) ?_
  refine SX.VC_loop (fun xs => ∃ (i : Nat), xs = [.int .i64 (i : Int)] ∧ i ≤ min n m ∧ sameTo la lb i) (fun xs => match xs with | .int _ i :: _ => n - i.toNat | _ => 0) (fun α => ⟨0, by kernel_rfl, by omega, sameTo_zero la lb⟩) ?_
  rintro xs - ⟨i, rfl, hin, hok⟩
  refine SX.D (.bool (decide (((i : Nat) : Int) < (((min n m) : Nat) : Int)))) ?_
  refine SX.B (decide (((i : Nat) : Int) < (((min n m) : Nat) : Int))) (fun h12 => ?_) (fun h12 => ?_)
  · try simp only [NRM] at h12
    obtain ⟨y, hy⟩ : ∃ y, la[i]? = some y := ⟨_, List.getElem?_eq_getElem (by omega)⟩
    obtain ⟨z, hz⟩ : ∃ z, lb[i]? = some z := ⟨_, List.getElem?_eq_getElem (by omega)⟩
    have hym := List.mem_of_getElem? hy
    have hzm := List.mem_of_getElem? hz
    refine SX.E (.bool true) (fun α => SX.extBnd (A := A) (n := n) (c := c) (j := i) hA (by kernel_rfl) (by kernel_rfl) (by omega)) ?_
    refine SX.E (.agg (cellsLk y).toArray) (fun α => SX.extElems (f := cellsLk) (l := la) (A := A) (n := n) (c := c) (j := i) (z := y) (fun _ => rfl) hA (by kernel_rfl) (by kernel_rfl) (by omega) (.inl (.inl (SX.SubK.full hlc hc))) hy) ?_
    refine SX.E (.bool true) (fun α => SX.extBnd (A := B) (n := m) (c := d) (j := i) hB (by kernel_rfl) (by kernel_rfl) (by omega)) ?_
    refine SX.E (.agg (cellsLk z).toArray) (fun α => SX.extElems (f := cellsLk) (l := lb) (A := B) (n := m) (c := d) (j := i) (z := z) (fun _ => rfl) hB (by kernel_rfl) (by kernel_rfl) (by omega) (.inr (.inl (SX.SubK.full hlc2 hc2))) hz) ?_
    refine SX.E (.bool (decide (slE y z))) (fun α => ⟨[⟨valLk y, 0, []⟩, ⟨valLk z, 0, []⟩], ⟨by kernel_rfl, by kernel_rfl, by kernel_rfl, by kernel_rfl, trivial⟩, .inr (⟨rfl, y, z, rfl, .inl (.inl (KL_data hym)), .inl (.inr (KL_data hzm)), rfl⟩), SX.noAli rfl⟩) ?_
    refine SX.D (.bool (!(decide (slE y z)))) ?_
    refine SX.B (!(decide (slE y z))) (fun h18 => ?_) (fun h18 => ?_)
    · try simp only [NRM] at h18
      have hq : partE la lb = _ := partE_at (by simpa using h3) (by simpa using h5) (not_hds fun y z h1 h2 => absurd (List.getElem?_eq_some_iff.1 h1).1 (by omega)) (diffE_at hok hy hz (by simpa using h18))
      exact SX.F (.tuple #[.int .i64 (((i : Nat) : Int)), .bool true, .int .i64 0]) (by rw [hq])
    try simp only [NRM] at h18
    refine SX.E (.int .i64 (((i + 1 : Nat) : Int))) (fun α => SX.W1 i) ?_
    exact SX.VC_again fun α => ⟨⟨i + 1, by kernel_rfl, by omega, sameTo_succ hok hy hz (by simpa using h18)⟩, cast (by kernel_rfl) (show n - ((i + 1 : Nat) : Int).toNat < n - (i : Int).toNat by omega)⟩
  try simp only [NRM] at h12
  have hq : partE la lb = _ := partE_no (by simpa using h3) (by simpa using h5) (not_hds fun y z h1 h2 => absurd (List.getElem?_eq_some_iff.1 h1).1 (by omega)) (diffE_none (by rw [hln, hlm, show min n m = i by omega]; exact hok))
  exact SX.F (.tuple #[.int .i64 0, .bool false, .int .i64 0]) (by rw [hq])
theorem SX.src_rw1 {C : SX.Cx} {ρ : List Value} {α : Nat → SX.AV} {y : SX.V} {l : List Value} {j sz : Nat} (h : ρ.getD j undef = .agg l.toArray) : SX.srcRel C ρ α sz (.row sz [.x j []]) y l := ⟨⟨y.den ρ α, sz, l⟩, ⟨by rw [← SX.cat1 (α := α) h]; simp [SX.V.den, SX.cellsV], trivial⟩, rfl, rfl⟩
set_option maxRecDepth 100000 in
theorem or128 (u : Nat) : BitVec.ofNat 8 (u % 128 + 128) = BitVec.ofNat 8 u ||| 128#8 := by
  apply BitVec.eq_of_toNat_eq
  rw [BitVec.toNat_or, BitVec.toNat_ofNat, BitVec.toNat_ofNat]
  show (u % 128 + 128) % 256 = u % 256 ||| 128
  have h : ∀ m < 256, m ||| 128 = m % 128 + 128 := by decide
  rw [h (u % 256) (by omega)]
  omega
theorem u_rem128 (u : Nat) : SX.binV .rem (.int .u64 (u : Int)) (.int .u64 (128 : Int)) = some (.int .u64 ((u % 128 : Nat) : Int)) := by
  have e : ((u % 128 : Nat) : Int) = (u : Int).tmod 128 := by
    rw [Int.tmod_eq_emod_of_nonneg (by omega)]; rfl
  simp only [SX.binV]
  rw [if_pos trivial, if_neg (by decide), e]
theorem u_add128 (u : Nat) (h : u < 128) : SX.binV .add (.int .u64 (u : Int)) (.int .u64 (128 : Int)) = some (.int .u64 ((u + 128 : Nat) : Int)) := by
  simp only [SX.binV, binI, if_true]
  rw [wrap_u]
  congr 2
  omega
theorem u_quo128 (u : Nat) (h : u < 18446744073709551616) : SX.binV .quo (.int .u64 (u : Int)) (.int .u64 (128 : Int)) = some (.int .u64 ((u / 128 : Nat) : Int)) := by
  have h2 : (u : Int).tdiv 128 = ((u / 128 : Nat) : Int) := by
    rw [Int.tdiv_eq_ediv_of_nonneg (by omega)]; rfl
  simp only [SX.binV, if_true, h2]
  rw [if_neg (by decide), wrap_u]
  congr 2
  omega
theorem enc8_fit (l : List W8) : SX.Sh.fit (.sl 1) (.agg (l.flatMap c8).toArray) = true := by
  have h2 : (l.flatMap c8).all (·.oneCell') = true := by
    rw [List.all_eq_true]
    intro u hu
    obtain ⟨a, _, h⟩ := List.mem_flatMap.1 hu
    exact c8o a u h
  have h1 : (l.flatMap c8).length % 1 = 0 := Nat.mod_one _
  simp only [SX.Sh.fit, h1, h2]
  rfl
def RnmR (U : Nat) (f : FuncId) (xs : List SX.Arg) (v : Value) : Prop := f = 60 ∧ ∃ u : Nat, u < U ∧ u < 18446744073709551616 ∧ xs = [⟨.int .u64 (u : Int), 0, []⟩] ∧ v = .agg ((numB u).flatMap c8).toArray
noncomputable def cxRn (U : Nat) (K A : Value → Nat → List Value → Prop) : SX.Cx := { P := Tryd.prog, R := fun _ => RnmR U, shp := fun f => if f = 60 then some (.sl 1) else none, K := K, A := A, bsr := true }
def tree_rnum : SX.Tree :=
(.df (.bin .lss 75) [(.q 0), (.k (.int .u64 128))] .one
(.br 1 []
(.df (.conv .u8) [(.q 0)] .one
(.ret (.row 0) [(some ⟨[(.a [(.q 2)])], 5, (.row 1)⟩)] []))
(.df (.bin .rem 75) [(.q 0), (.k (.int .u64 128))] .one
(.df (.bin .add 75) [(.q 2), (.k (.int .u64 128))] .one
(.df (.conv .u8) [(.q 3)] .one
(.df (.bin .quo 75) [(.q 0), (.k (.int .u64 128))] .one
(.df (.call 60 [.no]) [(.q 5)] (.sl 1)
(.df (.app 1 1 (.row 1 [(.q 6)])) [(.cat [(.a [(.q 4)])]), (.row 1)] .any
(.ret (.row 2) [none, none, (some ⟨[(.a [(.q 4)]), (.q 7)], 5, (.row 1)⟩)] [])))))))))
def args_rnum : List SX.V := [.x 0 []]
set_option maxRecDepth 100000 in
theorem run_rnum (U : Nat) (K A : Value → Nat → List Value → Prop) : (SX.run (cxRn U K A) ⟨fun f => f != 60, [], 2, 100⟩ 100000 0 (SX.door 60 Tryd.f60 args_rnum [.one]) [.code (Tryd.f60.body.getD .skip), .top Tryd.f60]).strip = tree_rnum := by kernel_rfl
set_option maxRecDepth 100000 in
set_option maxHeartbeats 4000000 in
theorem rnum_step (U u : Nat) (hok : ∀ K A, (cxRn U K A).Ok) (hu : u < 18446744073709551616) (hU : 128 ≤ u → u / 128 < U) (w : World) : Calls Tryd.prog 60 #[.int .u64 (u : Int)] w fun e w' => Below w.heap.size w w' ∧ ∃ hdr, e = .returned hdr ∧ SX.SlRet w w' [] hdr 1 ((numB u).flatMap c8) := by
  refine SX.calls_of_run (C := cxRn U (fun _ _ _ => False) (fun _ _ _ => False)) (G := ⟨fun f => f != 60, [], 2, 100⟩) (args := args_rnum) (sh := [.one]) (ρ := [.int .u64 (u : Int)]) 100000 tree_rnum (hok _ _) Tryd.func60 rfl (run_rnum _ _ _) (by kernel_rfl) (by kernel_rfl) (by kernel_rfl) ?_ ?_
  · exact fun W _ => SX.Kf_none (fun _ _ _ h => h) W
  unfold tree_rnum
  refine SX.D (.bool (decide ((u : Int) < 128))) ?_
  refine SX.B (decide ((u : Int) < 128)) (fun h1 => ?_) (fun h1 => ?_)
  · have h1 : u < 128 := by have := of_decide_eq_true h1; omega
    refine SX.E (w8 (BitVec.ofNat 8 u)) (fun α => cast (by kernel_rfl) (w_to8 u .u64)) ?_
    exact SX.VC_ret fun α W _ hrow hS => ⟨hS.below, _, by kernel_rfl, SX.SlRet.row hS (n := 0) (b := (⟨[(.a [(.x 2 [])])], 5, (.row 1)⟩ : SX.Blk)) (by kernel_rfl) rfl (hrow 0 _ (by kernel_rfl)) (Eq.trans (b := [Value.agg #[w8 (BitVec.ofNat 8 u)]].flatMap SX.cellsV) (by kernel_rfl) (by rw [numB_lt h1]; rfl))⟩
  have h1 : ¬ u < 128 := by have := of_decide_eq_false h1; omega
  have hlen := numB_len 8 (u / 128) (by omega)
  refine SX.E (.int .u64 ((u % 128 : Nat) : Int)) (fun α => cast (by kernel_rfl) (u_rem128 u)) ?_
  refine SX.E (.int .u64 ((u % 128 + 128 : Nat) : Int)) (fun α => cast (by kernel_rfl) (u_add128 (u % 128) (by omega))) ?_
  refine SX.E (w8 (BitVec.ofNat 8 u ||| 128#8)) (fun α => by rw [← or128]; exact cast (by kernel_rfl) (w_to8 (u % 128 + 128) .u64)) ?_
  refine SX.E (.int .u64 ((u / 128 : Nat) : Int)) (fun α => cast (by kernel_rfl) (u_quo128 u hu)) ?_
  refine SX.VC_df (.agg ((numB (u / 128)).flatMap c8).toArray) (fun α => ⟨[⟨.int .u64 ((u / 128 : Nat) : Int), 0, []⟩], ⟨by kernel_rfl, by kernel_rfl, trivial⟩, ⟨rfl, u / 128, hU (by omega), by omega, rfl, rfl⟩, SX.noAli rfl⟩) (enc8_fit _) ?_
  refine SX.VC_df (.agg ((numB (u / 128)).flatMap c8).toArray) (fun α => SX.app_rel (f := c8) (l1 := [BitVec.ofNat 8 u ||| 128#8]) (l2 := numB (u / 128)) (fun _ => rfl) c8o (by decide) (by kernel_rfl) (SX.src_rw1 (by kernel_rfl)) (by simp only [LL]; omega) (by simp only [LL]; omega)) rfl ?_
  exact SX.VC_ret fun α W _ hrow hS => ⟨hS.below, _, by kernel_rfl, SX.SlRet.row hS (n := 2) (b := (⟨[(.a [(.x 4 [])]), (.x 7 [])], 5, (.row 1)⟩ : SX.Blk)) (by kernel_rfl) rfl (hrow 2 _ (by kernel_rfl)) (Eq.trans (b := [Value.agg #[w8 (BitVec.ofNat 8 u ||| 128#8)], Value.agg ((numB (u / 128)).flatMap c8).toArray].flatMap SX.cellsV) (by kernel_rfl) (by rw [numB_ge h1]; simp [SX.cellsV, c8]))⟩
theorem rnum_any : ∀ (U u : Nat), u < U → u < 18446744073709551616 → ∀ w : World, Calls Tryd.prog 60 #[.int .u64 (u : Int)] w fun e w' => Below w.heap.size w w' ∧ ∃ hdr, e = .returned hdr ∧ SX.SlRet w w' [] hdr 1 ((numB u).flatMap c8)
  | 0, u, h, _, _ => absurd h (by omega)
  | U + 1, u, h, hu, w => rnum_step U u (fun K A => SX.Cx.ok_of (fun _ => rfl) fun _ f xs v W hR hrd hKf => by
      obtain ⟨rfl, y, hy, hyu, rfl, rfl⟩ := hR
      exact (rnum_any U y hy hyu W).mono fun e w' h => SX.SlRet.ok1 rfl h) hu (by omega) w
theorem rnumeral_any (u : Nat) (hu : u < 18446744073709551616) (w : World) : Calls Tryd.prog 60 #[.int .u64 (u : Int)] w fun e w' => Below w.heap.size w w' ∧ ∃ hdr, e = .returned hdr ∧ SX.SlRet w w' [] hdr 1 ((numB u).flatMap c8) := rnum_any (u + 1) u (by omega) hu w
def tree_runs : SX.Tree :=
(.df (.bin .geq 3) [(.q 0), (.i 0)] .one
(.br 1 []
(.df (.conv .u64) [(.q 0)] .one
(.df (.bin .mul 75) [(.k (.int .u64 2)), (.q 2)] .one
(.ret (.q 3) [] [])))
(.df (.bin .add 3) [(.q 0), (.i 1)] .one
(.df .neg [(.q 2)] .one
(.df (.conv .u64) [(.q 3)] .one
(.df (.bin .mul 75) [(.k (.int .u64 2)), (.q 4)] .one
(.df (.bin .add 75) [(.q 5), (.k (.int .u64 1))] .one
(.ret (.q 6) [] []))))))))
def args_runs : List SX.V := [.x 0 []]
set_option maxRecDepth 100000 in
theorem run_runs (K A : Value → Nat → List Value → Prop) : (SX.run (cx0 K A) ⟨fun f => true, [], 0, 100⟩ 100000 0 (SX.door 61 Tryd.f61 args_runs [.one]) [.code (Tryd.f61.body.getD .skip), .top Tryd.f61]).strip = tree_runs := by kernel_rfl
set_option maxRecDepth 100000 in
set_option maxHeartbeats 4000000 in
theorem runs_any (k : Int) (w : World) (h1 : -9223372036854775808 ≤ k) (h2 : k ≤ 9223372036854775807) : Calls Tryd.prog 61 #[.int .i64 k] w fun e w' => e = .returned (.int .u64 (unsN k : Int)) ∧ Below w.heap.size w w' := by
  refine SX.calls_of_run (C := cx0 (fun _ _ _ => False) (fun _ _ _ => False)) (G := ⟨fun f => true, [], 0, 100⟩) (args := args_runs) (sh := [.one]) (ρ := [.int .i64 k]) 100000 tree_runs (cx0_ok _ _) Tryd.func61 rfl (run_runs _ _) (by kernel_rfl) (by kernel_rfl) (by kernel_rfl) ?_ ?_
  · exact fun W _ => SX.Kf_none (fun _ _ _ h => h) W
  unfold tree_runs
  have hul := unsN_lt h1 h2
  refine SX.D (.bool (decide (k ≥ 0))) ?_
  refine SX.B (decide (k ≥ 0)) (fun h3 => ?_) (fun h3 => ?_)
  · have h3 : 0 ≤ k := of_decide_eq_true h3
    obtain ⟨m, rfl⟩ : ∃ m : Nat, k = (m : Int) := ⟨k.toNat, by omega⟩
    refine SX.E (.int .u64 (m : Int)) (fun α => Eq.trans (b := some (.int .u64 (IntKind.u64.wrap (m : Int)))) (by kernel_rfl) (by rw [wrap_u]; congr 2; omega)) ?_
    refine SX.E (.int .u64 ((2 * m : Nat) : Int)) (fun α => Eq.trans (b := some (.int .u64 (IntKind.u64.wrap (2 * (m : Int))))) (by kernel_rfl) (by rw [wrap_u]; congr 2; omega)) ?_
    exact SX.F (.int .u64 ((2 * m : Nat) : Int)) (by rw [show unsN (m : Int) = 2 * m by unfold unsN; rw [if_pos h3]; omega])
  have h3 : k < 0 := by have := of_decide_eq_false h3; omega
  obtain ⟨m, hm⟩ : ∃ m : Nat, k = -((m : Int) + 1) := ⟨(-k - 1).toNat, by omega⟩
  refine SX.E (.int .i64 (k + 1)) (fun α => SX.W (k + 1)) ?_
  refine SX.E (.int .i64 (-(k + 1))) (fun α => SX.W (-(k + 1))) ?_
  refine SX.E (.int .u64 (m : Int)) (fun α => Eq.trans (b := some (.int .u64 (IntKind.u64.wrap (-(k + 1))))) (by kernel_rfl) (by rw [wrap_u]; congr 2; omega)) ?_
  refine SX.E (.int .u64 ((2 * m : Nat) : Int)) (fun α => Eq.trans (b := some (.int .u64 (IntKind.u64.wrap (2 * (m : Int))))) (by kernel_rfl) (by rw [wrap_u]; congr 2; omega)) ?_
  refine SX.E (.int .u64 ((2 * m + 1 : Nat) : Int)) (fun α => Eq.trans (b := some (.int .u64 (IntKind.u64.wrap (((2 * m : Nat) : Int) + 1)))) (by kernel_rfl) (by rw [wrap_u]; congr 2; omega)) ?_
  exact SX.F (.int .u64 ((2 * m + 1 : Nat) : Int)) (by rw [show unsN k = 2 * m + 1 by unfold unsN; rw [if_neg (by omega)]; omega])
def tree_rfo1 : SX.Tree :=
(.ret (.k (.bool true)) [] [])
def args_rfo1 : List SX.V := [.a [.k (.int .i64 1), .x 0 [], .k (.string ⟨#[]⟩), .k (.slice none 0 0)]]
set_option maxRecDepth 100000 in
theorem run_rfo1 (K A : Value → Nat → List Value → Prop) : (SX.run (cx0 K A) ⟨fun f => true, [], 0, 100⟩ 100000 0 (SX.door 58 Tryd.f58 args_rfo1 [.one]) [.code (Tryd.f58.body.getD .skip), .top Tryd.f58]).strip = tree_rfo1 := by kernel_rfl
set_option maxRecDepth 100000 in
set_option maxHeartbeats 4000000 in
theorem rfo1_any (k : Int) (w : World) : Calls Tryd.prog 58 #[.agg #[.int .i64 1, .int .i64 k, .string ⟨#[]⟩, .slice none 0 0]] w fun e w' => e = .returned (.bool true) ∧ Below w.heap.size w w' := by
  refine SX.calls_of_run (C := cx0 (fun _ _ _ => False) (fun _ _ _ => False)) (G := ⟨fun f => true, [], 0, 100⟩) (args := args_rfo1) (sh := [.one]) (ρ := [.int .i64 k]) 100000 tree_rfo1 (cx0_ok _ _) Tryd.func58 rfl (run_rfo1 _ _) (by kernel_rfl) (by kernel_rfl) (by kernel_rfl) ?_ ?_
  · exact fun W _ => SX.Kf_none (fun _ _ _ h => h) W
  unfold tree_rfo1
  exact SX.VC_ret fun α W _ _ hS => SX.ret_of hS (x := .bool true) (by kernel_rfl) rfl
def tree_rfo2 : SX.Tree :=
(.ret (.k (.bool true)) [] [])
def args_rfo2 : List SX.V := [.a [.k (.int .i64 2), .k (.int .i64 0), .x 0 [], .k (.slice none 0 0)]]
set_option maxRecDepth 100000 in
theorem run_rfo2 (K A : Value → Nat → List Value → Prop) : (SX.run (cx0 K A) ⟨fun f => true, [], 0, 100⟩ 100000 0 (SX.door 58 Tryd.f58 args_rfo2 [.one]) [.code (Tryd.f58.body.getD .skip), .top Tryd.f58]).strip = tree_rfo2 := by kernel_rfl
set_option maxRecDepth 100000 in
set_option maxHeartbeats 4000000 in
theorem rfo2_any (b : ByteArray) (w : World) : Calls Tryd.prog 58 #[.agg #[.int .i64 2, .int .i64 0, .string b, .slice none 0 0]] w fun e w' => e = .returned (.bool true) ∧ Below w.heap.size w w' := by
  refine SX.calls_of_run (C := cx0 (fun _ _ _ => False) (fun _ _ _ => False)) (G := ⟨fun f => true, [], 0, 100⟩) (args := args_rfo2) (sh := [.one]) (ρ := [.string b]) 100000 tree_rfo2 (cx0_ok _ _) Tryd.func58 rfl (run_rfo2 _ _) (by kernel_rfl) (by kernel_rfl) (by kernel_rfl) ?_ ?_
  · exact fun W _ => SX.Kf_none (fun _ _ _ h => h) W
  unfold tree_rfo2
  exact SX.VC_ret fun α W _ _ hS => SX.ret_of hS (x := .bool true) (by kernel_rfl) rfl
def tree_rde1 : SX.Tree :=
(.ret (.i 0) [] [])
def args_rde1 : List SX.V := [.a [.k (.int .i64 1), .x 0 [], .k (.string ⟨#[]⟩), .k (.slice none 0 0)]]
set_option maxRecDepth 100000 in
theorem run_rde1 (K A : Value → Nat → List Value → Prop) : (SX.run (cx0 K A) ⟨fun f => true, [], 0, 100⟩ 100000 0 (SX.door 59 Tryd.f59 args_rde1 [.one]) [.code (Tryd.f59.body.getD .skip), .top Tryd.f59]).strip = tree_rde1 := by kernel_rfl
set_option maxRecDepth 100000 in
set_option maxHeartbeats 4000000 in
theorem rde1_any (k : Int) (w : World) : Calls Tryd.prog 59 #[.agg #[.int .i64 1, .int .i64 k, .string ⟨#[]⟩, .slice none 0 0]] w fun e w' => e = .returned (.int .i64 0) ∧ Below w.heap.size w w' := by
  refine SX.calls_of_run (C := cx0 (fun _ _ _ => False) (fun _ _ _ => False)) (G := ⟨fun f => true, [], 0, 100⟩) (args := args_rde1) (sh := [.one]) (ρ := [.int .i64 k]) 100000 tree_rde1 (cx0_ok _ _) Tryd.func59 rfl (run_rde1 _ _) (by kernel_rfl) (by kernel_rfl) (by kernel_rfl) ?_ ?_
  · exact fun W _ => SX.Kf_none (fun _ _ _ h => h) W
  unfold tree_rde1
  exact SX.VC_ret fun α W _ _ hS => SX.ret_of hS (x := .int .i64 0) (by kernel_rfl) rfl
def tree_rde2 : SX.Tree :=
(.ret (.i 0) [] [])
def args_rde2 : List SX.V := [.a [.k (.int .i64 2), .k (.int .i64 0), .x 0 [], .k (.slice none 0 0)]]
set_option maxRecDepth 100000 in
theorem run_rde2 (K A : Value → Nat → List Value → Prop) : (SX.run (cx0 K A) ⟨fun f => true, [], 0, 100⟩ 100000 0 (SX.door 59 Tryd.f59 args_rde2 [.one]) [.code (Tryd.f59.body.getD .skip), .top Tryd.f59]).strip = tree_rde2 := by kernel_rfl
set_option maxRecDepth 100000 in
set_option maxHeartbeats 4000000 in
theorem rde2_any (b : ByteArray) (w : World) : Calls Tryd.prog 59 #[.agg #[.int .i64 2, .int .i64 0, .string b, .slice none 0 0]] w fun e w' => e = .returned (.int .i64 0) ∧ Below w.heap.size w w' := by
  refine SX.calls_of_run (C := cx0 (fun _ _ _ => False) (fun _ _ _ => False)) (G := ⟨fun f => true, [], 0, 100⟩) (args := args_rde2) (sh := [.one]) (ρ := [.string b]) 100000 tree_rde2 (cx0_ok _ _) Tryd.func59 rfl (run_rde2 _ _) (by kernel_rfl) (by kernel_rfl) (by kernel_rfl) ?_ ?_
  · exact fun W _ => SX.Kf_none (fun _ _ _ h => h) W
  unfold tree_rde2
  exact SX.VC_ret fun α W _ _ hS => SX.ret_of hS (x := .int .i64 0) (by kernel_rfl) rfl
def RY1 (f : FuncId) (xs : List SX.Arg) (v : Value) : Prop :=
  (f = 58 ∧ ∃ z : Fl, xs = [⟨valFl z, 0, []⟩] ∧ v = .bool true) ∨
  (f = 59 ∧ ∃ z : Fl, xs = [⟨valFl z, 0, []⟩] ∧ v = .int .i64 0)
def shpY1 : FuncId → Option SX.Sh := fun f => if f = 58 then some .one else if f = 59 then some .one else none
noncomputable def cxY1 (K A : Value → Nat → List Value → Prop) : SX.Cx := { P := Tryd.prog, R := fun _ => RY1, shp := shpY1, K := K, A := A }
theorem okY1 (K A : Value → Nat → List Value → Prop) : (cxY1 K A).Ok := by
  refine SX.Cx.ok_of (fun _ => rfl) ?_
  intro K f xs v W hR hrd hKf
  rcases hR with ⟨rfl, z, rfl, rfl⟩ | ⟨rfl, z, rfl, rfl⟩
  · cases z with
    | n k => exact (rfo1_any k W).mono fun e w' h => SX.plainOk rfl h
    | s b => exact (rfo2_any b W).mono fun e w' h => SX.plainOk rfl h
  cases z with
  | n k => exact (rde1_any k W).mono fun e w' h => SX.plainOk rfl h
  | s b => exact (rde2_any b W).mono fun e w' h => SX.plainOk rfl h
def tree_rfo3 : SX.Tree :=
(.loop [(.i 0)] [.one]
(.df (.len false) [(.q 0)] .one
(.df (.bin .lss 3) [(.q 1), (.q 2)] .one
(.br 3 []
(.df .bnd [(.q 0), (.q 1)] .one
(.df (.elems 4 0 4) [(.q 0), (.q 1)] (.ag 4)
(.df (.call 58 [.no]) [(.a (SX.Y 5 0 4))] .one
(.df .not [(.q 6)] .one
(.br 7 []
(.ret (.k (.bool false)) [] [])
(.df (.bin .add 3) [(.q 1), (.i 1)] .one
(.again 0 [(.q 8)])))))))
(.ret (.k (.bool true)) [] [])))))
def args_rfo3 : List SX.V := [.a [.k (.int .i64 3), .k (.int .i64 0), .k (.string ⟨#[]⟩), .x 0 []]]
set_option maxRecDepth 100000 in
theorem run_rfo3 (K A : Value → Nat → List Value → Prop) : (SX.run (cxY1 K A) ⟨fun f => f != 58, [⟨58, 8, [(.s 3, .one)]⟩], 0, 100⟩ 100000 0 (SX.door 58 Tryd.f58 args_rfo3 [.one]) [.code (Tryd.f58.body.getD .skip), .top Tryd.f58]).strip = tree_rfo3 := by kernel_rfl
set_option maxRecDepth 100000 in
set_option maxHeartbeats 4000000 in
theorem rfo3_any (fl : List Fl) (A : Option Addr) (n c : Nat) (w : World) (hr : Rd w 4 A n (flL fl)) (hn : n ≤ 1048576) (hc : n ≤ c) : Calls Tryd.prog 58 #[.agg #[.int .i64 3, .int .i64 0, .string ⟨#[]⟩, .slice A n c]] w fun e w' => e = .returned (.bool true) ∧ Below w.heap.size w w' := by
  refine SX.calls_of_run (C := cxY1 (fun s sz cells => s = .slice A n c ∧ sz = 4 ∧ cells = flL fl) (fun _ _ _ => False)) (G := ⟨fun f => f != 58, [⟨58, 8, [(.s 3, .one)]⟩], 0, 100⟩) (args := args_rfo3) (sh := [.one]) (ρ := [.slice A n c]) 100000 tree_rfo3 (okY1 _ _) Tryd.func58 rfl (run_rfo3 _ _) (by kernel_rfl) (by kernel_rfl) (by kernel_rfl) ?_ ?_
  · rintro W hW s sz cells ⟨rfl, rfl, rfl⟩; exact ⟨hr.same0 hW, hc⟩
  have hA := SX.rd_some hr
  have hln : fl.length = n := by have := hr.1; rw [flL_len] at this; omega
  unfold tree_rfo3
  refine SX.VC_loop (fun xs => ∃ (i : Nat), xs = [.int .i64 (i : Int)] ∧ i ≤ n) (fun xs => match xs with | .int _ i :: _ => n - i.toNat | _ => 0) (fun α => ⟨0, by kernel_rfl, by omega⟩) ?_
  rintro xs - ⟨i, rfl, hin⟩
  refine SX.D (.int .i64 (n : Int)) ?_
  refine SX.D (.bool (decide ((i : Int) < (n : Int)))) ?_
  refine SX.B (decide ((i : Int) < (n : Int))) (fun h4 => ?_) (fun h4 => ?_)
  · have h4 : i < n := by have := of_decide_eq_true h4; omega
    obtain ⟨z, hz⟩ : ∃ z, fl[i]? = some z := ⟨_, List.getElem?_eq_getElem (by omega)⟩
    refine SX.E (.bool true) (fun α => SX.extBnd (A := A) (n := n) (c := c) (j := i) hA (by kernel_rfl) (by kernel_rfl) h4) ?_
    refine SX.VC_df (valFl z) (fun α => SX.extElems (f := cellsFl) (l := fl) (A := A) (n := n) (c := c) (j := i) (z := z) cellsFl_len hA (by kernel_rfl) (by kernel_rfl) h4 ⟨rfl, rfl, rfl⟩ hz) (by cases z <;> rfl) ?_
    refine SX.E (.bool true) (fun α => ⟨[⟨valFl z, 0, []⟩], ⟨(by cases z <;> kernel_rfl), by kernel_rfl, trivial⟩, .inl ⟨rfl, z, rfl, rfl⟩, SX.noAli rfl⟩) ?_
    refine SX.D (.bool false) ?_
    refine SX.B false (fun h => nomatch h) (fun _ => ?_)
    refine SX.E (.int .i64 ((i + 1 : Nat) : Int)) (fun α => SX.W1 i) ?_
    exact SX.VC_again fun α => ⟨⟨i + 1, by kernel_rfl, by omega⟩, cast (by kernel_rfl) (show n - ((i + 1 : Nat) : Int).toNat < n - (i : Int).toNat by omega)⟩
  exact SX.VC_ret fun α W _ _ hS => SX.ret_of hS (x := .bool true) (by kernel_rfl) rfl
def tree_rde3 : SX.Tree :=
(.loop [(.i 0), (.i 0)] [.one, .one]
(.df (.len false) [(.q 0)] .one
(.df (.bin .lss 3) [(.q 1), (.q 3)] .one
(.br 4 []
(.df .bnd [(.q 0), (.q 1)] .one
(.df (.elems 4 0 4) [(.q 0), (.q 1)] (.ag 4)
(.df (.call 59 [.no]) [(.a (SX.Y 6 0 4))] .one
(.df .max [(.q 2), (.q 7)] .one
(.df (.bin .add 3) [(.q 1), (.i 1)] .one
(.again 0 [(.q 9), (.q 8)]))))))
(.df (.bin .add 3) [(.q 2), (.i 1)] .one
(.ret (.q 5) [] []))))))
def args_rde3 : List SX.V := [.a [.k (.int .i64 3), .k (.int .i64 0), .k (.string ⟨#[]⟩), .x 0 []]]
set_option maxRecDepth 100000 in
theorem run_rde3 (K A : Value → Nat → List Value → Prop) : (SX.run (cxY1 K A) ⟨fun f => f != 59, [⟨59, 5, [(.s 4, .one), (.s 3, .one)]⟩], 0, 100⟩ 100000 0 (SX.door 59 Tryd.f59 args_rde3 [.one]) [.code (Tryd.f59.body.getD .skip), .top Tryd.f59]).strip = tree_rde3 := by kernel_rfl
set_option maxRecDepth 100000 in
set_option maxHeartbeats 4000000 in
theorem rde3_any (fl : List Fl) (A : Option Addr) (n c : Nat) (w : World) (hr : Rd w 4 A n (flL fl)) (hn : n ≤ 1048576) (hc : n ≤ c) : Calls Tryd.prog 59 #[.agg #[.int .i64 3, .int .i64 0, .string ⟨#[]⟩, .slice A n c]] w fun e w' => e = .returned (.int .i64 1) ∧ Below w.heap.size w w' := by
  refine SX.calls_of_run (C := cxY1 (fun s sz cells => s = .slice A n c ∧ sz = 4 ∧ cells = flL fl) (fun _ _ _ => False)) (G := ⟨fun f => f != 59, [⟨59, 5, [(.s 4, .one), (.s 3, .one)]⟩], 0, 100⟩) (args := args_rde3) (sh := [.one]) (ρ := [.slice A n c]) 100000 tree_rde3 (okY1 _ _) Tryd.func59 rfl (run_rde3 _ _) (by kernel_rfl) (by kernel_rfl) (by kernel_rfl) ?_ ?_
  · rintro W hW s sz cells ⟨rfl, rfl, rfl⟩; exact ⟨hr.same0 hW, hc⟩
  have hA := SX.rd_some hr
  have hln : fl.length = n := by have := hr.1; rw [flL_len] at this; omega
  unfold tree_rde3
  refine SX.VC_loop (fun xs => ∃ (i : Nat), xs = [.int .i64 (i : Int), .int .i64 0] ∧ i ≤ n) (fun xs => match xs with | .int _ i :: _ => n - i.toNat | _ => 0) (fun α => ⟨0, by kernel_rfl, by omega⟩) ?_
  rintro xs - ⟨i, rfl, hin⟩
  refine SX.D (.int .i64 (n : Int)) ?_
  refine SX.D (.bool (decide ((i : Int) < (n : Int)))) ?_
  refine SX.B (decide ((i : Int) < (n : Int))) (fun h4 => ?_) (fun h4 => ?_)
  · have h4 : i < n := by have := of_decide_eq_true h4; omega
    obtain ⟨z, hz⟩ : ∃ z, fl[i]? = some z := ⟨_, List.getElem?_eq_getElem (by omega)⟩
    refine SX.E (.bool true) (fun α => SX.extBnd (A := A) (n := n) (c := c) (j := i) hA (by kernel_rfl) (by kernel_rfl) h4) ?_
    refine SX.VC_df (valFl z) (fun α => SX.extElems (f := cellsFl) (l := fl) (A := A) (n := n) (c := c) (j := i) (z := z) cellsFl_len hA (by kernel_rfl) (by kernel_rfl) h4 ⟨rfl, rfl, rfl⟩ hz) (by cases z <;> rfl) ?_
    refine SX.E (.int .i64 0) (fun α => ⟨[⟨valFl z, 0, []⟩], ⟨(by cases z <;> kernel_rfl), by kernel_rfl, trivial⟩, .inr (⟨rfl, z, rfl, rfl⟩), SX.noAli rfl⟩) ?_
    refine SX.D (.int .i64 0) ?_
    refine SX.E (.int .i64 ((i + 1 : Nat) : Int)) (fun α => SX.W1 i) ?_
    exact SX.VC_again fun α => ⟨⟨i + 1, by kernel_rfl, by omega⟩, cast (by kernel_rfl) (show n - ((i + 1 : Nat) : Int).toNat < n - (i : Int).toNat by omega)⟩
  refine SX.D (.int .i64 1) ?_
  exact SX.VC_ret fun α W _ _ hS => SX.ret_of hS (x := .int .i64 1) (by kernel_rfl) rfl
def RY2 (K : Value → Nat → List Value → Prop) (f : FuncId) (xs : List SX.Arg) (v : Value) : Prop :=
  (f = 58 ∧ ∃ (u : Value) (fl : List Fl), xs = [⟨.agg #[.int .i64 3, .int .i64 0, .string ⟨#[]⟩, u], 0, []⟩] ∧ K u 4 (flL fl) ∧ fl.length ≤ 1048576 ∧ v = .bool true) ∨
  (f = 59 ∧ ∃ (u : Value) (fl : List Fl), xs = [⟨.agg #[.int .i64 3, .int .i64 0, .string ⟨#[]⟩, u], 0, []⟩] ∧ K u 4 (flL fl) ∧ fl.length ≤ 1048576 ∧ v = .int .i64 1)
def shpY2 : FuncId → Option SX.Sh := fun f => if f = 58 then some .one else if f = 59 then some .one else none
noncomputable def cxY2 (K A : Value → Nat → List Value → Prop) : SX.Cx := { P := Tryd.prog, R := RY2, shp := shpY2, K := K, A := A }
theorem okY2 (K A : Value → Nat → List Value → Prop) : (cxY2 K A).Ok := by
  refine SX.Cx.ok_of (fun _ => rfl) ?_
  intro K f xs v W hR hrd hKf
  rcases hR with ⟨rfl, u, fl, rfl, hku, hl, rfl⟩ | ⟨rfl, u, fl, rfl, hku, hl, rfl⟩
  · obtain ⟨A, n, c, rfl, h2, h3, h4⟩ := fl_arg (hKf u 4 (flL fl) hku)
    exact (rfo3_any fl A n c W h2 (by omega) h3).mono fun e w' h => SX.plainOk rfl h
  obtain ⟨A, n, c, rfl, h2, h3, h4⟩ := fl_arg (hKf u 4 (flL fl) hku)
  exact (rde3_any fl A n c W h2 (by omega) h3).mono fun e w' h => SX.plainOk rfl h
def tree_rche : SX.Tree :=
(.df (.call 58 [.no]) [(.a [(.i 3), (.i 0), (.k (.string ⟨#[]⟩)), (.q 0)])] .one
(.df .not [(.q 1)] .one
(.br 2 []
(.ret (.i 1) [] [])
(.df (.call 59 [.no]) [(.a [(.i 3), (.i 0), (.k (.string ⟨#[]⟩)), (.q 0)])] .one
(.df (.bin .gtr 3) [(.q 3), (.i 16)] .one
(.br 4 []
(.ret (.i 2) [] [])
(.ret (.i 0) [] [])))))))
def args_rche : List SX.V := [.a [.k (.int .i64 3), .k (.int .i64 0), .k (.string ⟨#[]⟩), .x 0 []]]
set_option maxRecDepth 100000 in
theorem run_rche (K A : Value → Nat → List Value → Prop) : (SX.run (cxY2 K A) ⟨fun f => true, [], 0, 100⟩ 100000 0 (SX.door 51 Tryd.f51 args_rche [.one]) [.code (Tryd.f51.body.getD .skip), .top Tryd.f51]).strip = tree_rche := by kernel_rfl
set_option maxRecDepth 100000 in
set_option maxHeartbeats 4000000 in
theorem rcheck_any (fl : List Fl) (A : Option Addr) (n c : Nat) (w : World) (hr : Rd w 4 A n (flL fl)) (hn : n ≤ 1048576) (hc : n ≤ c) : Calls Tryd.prog 51 #[.agg #[.int .i64 3, .int .i64 0, .string ⟨#[]⟩, .slice A n c]] w fun e w' => e = .returned (.int .i64 0) ∧ Below w.heap.size w w' := by
  refine SX.calls_of_run (C := cxY2 (fun s sz cells => s = .slice A n c ∧ sz = 4 ∧ cells = flL fl) (fun _ _ _ => False)) (G := ⟨fun f => true, [], 0, 100⟩) (args := args_rche) (sh := [.one]) (ρ := [.slice A n c]) 100000 tree_rche (okY2 _ _) Tryd.func51 rfl (run_rche _ _) (by kernel_rfl) (by kernel_rfl) (by kernel_rfl) ?_ ?_
  · rintro W hW s sz cells ⟨rfl, rfl, rfl⟩; exact ⟨hr.same0 hW, hc⟩
  have hA := SX.rd_some hr
  have hln : fl.length = n := by have := hr.1; rw [flL_len] at this; omega
  unfold tree_rche
  refine SX.E (.bool true) (fun α => ⟨[⟨.agg #[.int .i64 3, .int .i64 0, .string ⟨#[]⟩, .slice A n c], 0, []⟩], ⟨by kernel_rfl, by kernel_rfl, trivial⟩, .inl ⟨rfl, .slice A n c, fl, rfl, ⟨rfl, rfl, rfl⟩, by omega, rfl⟩, SX.noAli rfl⟩) ?_
  refine SX.D (.bool false) ?_
  refine SX.B false (fun h => nomatch h) (fun _ => ?_)
  refine SX.E (.int .i64 1) (fun α => ⟨[⟨.agg #[.int .i64 3, .int .i64 0, .string ⟨#[]⟩, .slice A n c], 0, []⟩], ⟨by kernel_rfl, by kernel_rfl, trivial⟩, .inr (⟨rfl, .slice A n c, fl, rfl, ⟨rfl, rfl, rfl⟩, by omega, rfl⟩), SX.noAli rfl⟩) ?_
  refine SX.D (.bool false) ?_
  refine SX.B false (fun h => nomatch h) (fun _ => ?_)
  exact SX.VC_ret fun α W _ _ hS => SX.ret_of hS (x := .int .i64 0) (by kernel_rfl) rfl
def RY3 (f : FuncId) (xs : List SX.Arg) (v : Value) : Prop :=
  (f = 60 ∧ ∃ u : Nat, u < 18446744073709551616 ∧ xs = [⟨.int .u64 (u : Int), 0, []⟩] ∧ v = .agg ((numB u).flatMap c8).toArray) ∨
  (f = 61 ∧ ∃ k : Int, xs = [⟨.int .i64 k, 0, []⟩] ∧ (-9223372036854775808 ≤ k ∧ k ≤ 9223372036854775807) ∧ v = .int .u64 (unsN k : Int))
def shpY3 : FuncId → Option SX.Sh := fun f => if f = 60 then some (.sl 1) else if f = 61 then some .one else none
noncomputable def cxY3 (K A : Value → Nat → List Value → Prop) : SX.Cx := { P := Tryd.prog, R := fun _ => RY3, shp := shpY3, K := K, A := A, bsr := true }
theorem okY3 (K A : Value → Nat → List Value → Prop) : (cxY3 K A).Ok := by
  refine SX.Cx.ok_of (fun _ => rfl) ?_
  intro K f xs v W hR hrd hKf
  rcases hR with ⟨rfl, u, hu, rfl, rfl⟩ | ⟨rfl, k, rfl, ⟨h1, h2⟩, rfl⟩
  · exact (rnumeral_any u hu W).mono fun e w' h => SX.SlRet.ok1 rfl h
  exact (runs_any k W h1 h2).mono fun e w' h => SX.plainOk rfl h
def tree_ren1 : SX.Tree :=
(.df (.call 61 [.no]) [(.x 0 [])] .one 
(.df (.call 60 [.no]) [(.x 1 [])] (.sl 1) 
(.df (.app 1 1 (.row 1 [(.x 2 [])])) [(.cat [(.a [(.k (.int .u8 1))])]), (.row 2)] .any 
(.ret (.row 3) [none, none, none, (some ⟨[(.a [(.k (.int .u8 1))]), (.x 3 [])], 5, (.row 1)⟩)] []))))
def args_ren1 : List SX.V := [.a [.k (.int .i64 1), .x 0 [], .k (.string ⟨#[]⟩), .k (.slice none 0 0)]]
set_option maxRecDepth 100000 in
theorem run_ren1 (K A : Value → Nat → List Value → Prop) : (SX.run (cxY3 K A) ⟨fun f => true, [], 2, 100⟩ 100000 0 (SX.door 52 Tryd.f52 args_ren1 [.one]) [.code (Tryd.f52.body.getD .skip), .top Tryd.f52]).strip = tree_ren1 := by kernel_rfl
set_option maxRecDepth 100000 in
set_option maxHeartbeats 4000000 in
theorem ren1_any (k : Int) (w : World) (h1 : -9223372036854775808 ≤ k) (h2 : k ≤ 9223372036854775807) : Calls Tryd.prog 52 #[.agg #[.int .i64 1, .int .i64 k, .string ⟨#[]⟩, .slice none 0 0]] w fun e w' => Below w.heap.size w w' ∧ ∃ hdr, e = .returned hdr ∧ SX.SlRet w w' [] hdr 1 ((encF (.n k)).flatMap c8) := by
  refine SX.calls_of_run (C := cxY3 (fun _ _ _ => False) (fun _ _ _ => False)) (G := ⟨fun f => true, [], 2, 100⟩) (args := args_ren1) (sh := [.one]) (ρ := [.int .i64 k]) 100000 tree_ren1 (okY3 _ _) Tryd.func52 rfl (run_ren1 _ _) (by kernel_rfl) (by kernel_rfl) (by kernel_rfl) ?_ ?_
  · exact fun W _ => SX.Kf_none (fun _ _ _ h => h) W
  unfold tree_ren1
  have hul := unsN_lt h1 h2
  have hlen := numB_len 9 (unsN k) (by omega)
  refine SX.E (.int .u64 (unsN k : Int)) (fun α => ⟨[⟨.int .i64 k, 0, []⟩], ⟨by kernel_rfl, by kernel_rfl, trivial⟩, .inr (⟨rfl, k, rfl, ⟨h1, h2⟩, rfl⟩), SX.noAli rfl⟩) ?_
  refine SX.VC_df (.agg ((numB (unsN k)).flatMap c8).toArray) (fun α => ⟨[⟨.int .u64 ((unsN k) : Int), 0, []⟩], ⟨by kernel_rfl, by kernel_rfl, trivial⟩, .inl ⟨rfl, (unsN k), hul, rfl, rfl⟩, SX.noAli rfl⟩) (enc8_fit _) ?_
  refine SX.VC_df (.agg ((numB (unsN k)).flatMap c8).toArray) (fun α => SX.app_rel (f := c8) (l1 := [1#8]) (l2 := numB (unsN k)) (fun _ => rfl) c8o (by decide) (by kernel_rfl) (SX.src_rw1 (by kernel_rfl)) (by simp only [LL]; omega) (by simp only [LL]; omega)) rfl ?_
  exact SX.VC_ret fun α W _ hrow hS => ⟨hS.below, _, by kernel_rfl, SX.SlRet.row hS (n := 3) (b := (⟨[(.a [(.k (.int .u8 1))]), (.x 3 [])], 5, (.row 1)⟩ : SX.Blk)) (by kernel_rfl) rfl (hrow 3 _ (by kernel_rfl)) (Eq.trans (b := [Value.agg #[w8 1#8], Value.agg ((numB (unsN k)).flatMap c8).toArray].flatMap SX.cellsV) (by kernel_rfl) (by simp [SX.cellsV, c8, encF]))⟩
def tree_ren2 : SX.Tree :=
(.df (.len true) [(.x 0 [])] .one 
(.df (.conv .u64) [(.x 1 [])] .one 
(.df (.call 60 [.no]) [(.x 2 [])] (.sl 1) 
(.df (.app 1 1 (.row 1 [(.x 3 [])])) [(.cat [(.a [(.k (.int .u8 2))])]), (.row 6)] .any 
(.df (.aps 1) [(.cat [(.a [(.k (.int .u8 2))]), (.x 4 [])]), (.x 0 [])] .any 
(.ret (.row 10) [none, none, none, none, none, none, none, none, none, none, (some ⟨[(.a [(.k (.int .u8 2))]), (.x 4 []), (.x 5 [])], 5, (.row 1)⟩), none] []))))))
def args_ren2 : List SX.V := [.a [.k (.int .i64 2), .k (.int .i64 0), .x 0 [], .k (.slice none 0 0)]]
set_option maxRecDepth 100000 in
theorem run_ren2 (K A : Value → Nat → List Value → Prop) : (SX.run (cxY3 K A) ⟨fun f => true, [], 2, 100⟩ 100000 0 (SX.door 52 Tryd.f52 args_ren2 [.one]) [.code (Tryd.f52.body.getD .skip), .top Tryd.f52]).strip = tree_ren2 := by kernel_rfl
set_option maxRecDepth 100000 in
set_option maxHeartbeats 4000000 in
theorem ren2_any (b : ByteArray) (w : World) (hb : b.size ≤ 1048576) : Calls Tryd.prog 52 #[.agg #[.int .i64 2, .int .i64 0, .string b, .slice none 0 0]] w fun e w' => Below w.heap.size w w' ∧ ∃ hdr, e = .returned hdr ∧ SX.SlRet w w' [] hdr 1 ((encF (.s b)).flatMap c8) := by
  refine SX.calls_of_run (C := cxY3 (fun _ _ _ => False) (fun _ _ _ => False)) (G := ⟨fun f => true, [], 2, 100⟩) (args := args_ren2) (sh := [.one]) (ρ := [.string b]) 100000 tree_ren2 (okY3 _ _) Tryd.func52 rfl (run_ren2 _ _) (by kernel_rfl) (by kernel_rfl) (by kernel_rfl) ?_ ?_
  · exact fun W _ => SX.Kf_none (fun _ _ _ h => h) W
  unfold tree_ren2
  have hlen := numB_len 9 b.size (by omega)
  have hcl : ∀ l : List W8, (l.flatMap c8).length = l.length := fun l => by induction l with
    | nil => rfl
    | cons a l ih => simp only [List.flatMap_cons, List.length_append, c8_len, List.length_cons, ih]; omega
  refine SX.D (.int .i64 (b.size : Int)) ?_
  refine SX.E (.int .u64 (b.size : Int)) (fun α => Eq.trans (b := some (.int .u64 (IntKind.u64.wrap (b.size : Int)))) (by kernel_rfl) (by rw [wrap_u]; congr 2; omega)) ?_
  refine SX.VC_df (.agg ((numB b.size).flatMap c8).toArray) (fun α => ⟨[⟨.int .u64 (b.size : Int), 0, []⟩], ⟨by kernel_rfl, by kernel_rfl, trivial⟩, .inl ⟨rfl, b.size, by omega, rfl, rfl⟩, SX.noAli rfl⟩) (enc8_fit _) ?_
  refine SX.VC_df (.agg ((numB b.size).flatMap c8).toArray) (fun α => SX.app_rel (f := c8) (l1 := [2#8]) (l2 := numB b.size) (fun _ => rfl) c8o (by decide) (by kernel_rfl) (SX.src_rw1 (by kernel_rfl)) (by simp only [LL]; omega) (by simp only [LL]; omega)) rfl ?_
  have hcc : [Value.agg #[w8 2#8], Value.agg ((numB b.size).flatMap c8).toArray].flatMap SX.cellsV = ([2#8] ++ numB b.size).flatMap c8 := by simp [SX.cellsV, c8]
  refine SX.VC_df (Value.agg ((sb b).flatMap c8).toArray) (fun α => ⟨b, by kernel_rfl, ?_, ?_, by rw [sb_cells]⟩) rfl ?_
  · rw [show SX.cellsV _ = (([2#8] ++ numB b.size).flatMap c8) from Eq.trans (b := [Value.agg #[w8 2#8], Value.agg ((numB b.size).flatMap c8).toArray].flatMap SX.cellsV) (by kernel_rfl) hcc, hcl]; simp only [LL]; omega
  · rw [show SX.cellsV _ = (([2#8] ++ numB b.size).flatMap c8) from Eq.trans (b := [Value.agg #[w8 2#8], Value.agg ((numB b.size).flatMap c8).toArray].flatMap SX.cellsV) (by kernel_rfl) hcc, hcl]; simp only [LL]; omega
  exact SX.VC_ret fun α W _ hrow hS => ⟨hS.below, _, by kernel_rfl, SX.SlRet.row hS (n := 10) (b := (⟨[(.a [(.k (.int .u8 2))]), (.x 4 []), (.x 5 [])], 5, (.row 1)⟩ : SX.Blk)) (by kernel_rfl) rfl (hrow 10 _ (by kernel_rfl)) (Eq.trans (b := [Value.agg #[w8 2#8], Value.agg ((numB b.size).flatMap c8).toArray, Value.agg ((sb b).flatMap c8).toArray].flatMap SX.cellsV) (by kernel_rfl) (by simp [SX.cellsV, c8, encF]))⟩
def RY4 (f : FuncId) (xs : List SX.Arg) (v : Value) : Prop :=
  (f = 60 ∧ ∃ u : Nat, u < 18446744073709551616 ∧ xs = [⟨.int .u64 (u : Int), 0, []⟩] ∧ v = .agg ((numB u).flatMap c8).toArray) ∨
  (f = 52 ∧ ∃ z : Fl, z.fits ∧ xs = [⟨valFl z, 0, []⟩] ∧ v = .agg ((encF z).flatMap c8).toArray)
def shpY4 : FuncId → Option SX.Sh := fun f => if f = 60 then some (.sl 1) else if f = 52 then some (.sl 1) else none
noncomputable def cxY4 (K A : Value → Nat → List Value → Prop) : SX.Cx := { P := Tryd.prog, R := fun _ => RY4, shp := shpY4, K := K, A := A, bsr := true }
theorem okY4 (K A : Value → Nat → List Value → Prop) : (cxY4 K A).Ok := by
  refine SX.Cx.ok_of (fun _ => rfl) ?_
  intro K f xs v W hR hrd hKf
  rcases hR with ⟨rfl, u, hu, rfl, rfl⟩ | ⟨rfl, z, hz, rfl, rfl⟩
  · exact (rnumeral_any u hu W).mono fun e w' h => SX.SlRet.ok1 rfl h
  cases z with
  | n k => exact (ren1_any k W hz.1 hz.2).mono fun e w' h => SX.SlRet.ok1 rfl h
  | s b => exact (ren2_any b W hz).mono fun e w' h => SX.SlRet.ok1 rfl h
def tree_ren3 : SX.Tree :=
(.df (.len false) [(.x 0 [])] .one 
(.df (.conv .u64) [(.x 1 [])] .one 
(.df (.call 60 [.no]) [(.x 2 [])] (.sl 1) 
(.df (.app 1 1 (.row 1 [(.x 3 [])])) [(.cat [(.a [(.k (.int .u8 3))])]), (.row 2)] .any 
(.loop [(.k (.int .i64 0)), (.cat [(.a [(.k (.int .u8 3))]), (.x 4 [])])] [.one, .any] 
(.df (.len false) [(.x 0 [])] .one 
(.df (.bin .lss 3) [(.x 5 []), (.x 7 [])] .one 
(.br 8 [] 
(.df .bnd [(.x 0 []), (.x 5 [])] .one 
(.df (.elems 4 0 4) [(.x 0 []), (.x 5 [])] (.ag 4) 
(.df (.call 52 [.no]) [(.a [(.x 10 [0]), (.x 10 [1]), (.x 10 [2]), (.x 10 [3])])] (.sl 1) 
(.df (.app 1 1 (.row 1 [(.x 11 [])])) [(.cat [(.x 6 [])]), (.row 6)] .any 
(.df (.bin .add 3) [(.x 5 []), (.k (.int .i64 1))] .one 
(.again 0 [(.x 13 []), (.cat [(.x 6 []), (.x 12 [])])])))))) 
(.ret (.row 5) [none, none, none, none, none, (some ⟨[(.x 6 [])], 5, (.row 1)⟩)] [])))))))))
def args_ren3 : List SX.V := [.a [.k (.int .i64 3), .k (.int .i64 0), .k (.string ⟨#[]⟩), .x 0 []]]
set_option maxRecDepth 100000 in
theorem run_ren3 (K A : Value → Nat → List Value → Prop) : (SX.run (cxY4 K A) ⟨fun f => f != 52, [⟨52, 8, [(.s 4, .one), (.s 3, .row 1 5)]⟩], 2, 100⟩ 100000 0 (SX.door 52 Tryd.f52 args_ren3 [.one]) [.code (Tryd.f52.body.getD .skip), .top Tryd.f52]).strip = tree_ren3 := by kernel_rfl
set_option maxRecDepth 100000 in
set_option maxHeartbeats 4000000 in
theorem ren3_any (fl : List Fl) (A : Option Addr) (n c : Nat) (w : World) (hr : Rd w 4 A n (flL fl)) (hn : n ≤ 1048576) (hc : n ≤ c) (hfit : ∀ z ∈ fl, z.fits) : Calls Tryd.prog 52 #[.agg #[.int .i64 3, .int .i64 0, .string ⟨#[]⟩, .slice A n c]] w fun e w' => Below w.heap.size w w' ∧ ∃ hdr, e = .returned hdr ∧ SX.SlRet w w' [] hdr 1 ((encL fl).flatMap c8) := by
  refine SX.calls_of_run (C := cxY4 (fun s sz cells => s = .slice A n c ∧ sz = 4 ∧ cells = flL fl) (fun _ _ _ => False)) (G := ⟨fun f => f != 52, [⟨52, 8, [(.s 4, .one), (.s 3, .row 1 5)]⟩], 2, 100⟩) (args := args_ren3) (sh := [.one]) (ρ := [.slice A n c]) 100000 tree_ren3 (okY4 _ _) Tryd.func52 rfl (run_ren3 _ _) (by kernel_rfl) (by kernel_rfl) (by kernel_rfl) ?_ ?_
  · rintro W hW s sz cells ⟨rfl, rfl, rfl⟩; exact ⟨hr.same0 hW, hc⟩
  have hA := SX.rd_some hr
  have hln : fl.length = n := by have := hr.1; rw [flL_len] at this; omega
  have hN := numB_len 9 n (by omega)
  unfold tree_ren3
  refine SX.D (.int .i64 (n : Int)) ?_
  refine SX.E (.int .u64 (n : Int)) (fun α => Eq.trans (b := some (.int .u64 (IntKind.u64.wrap (n : Int)))) (by kernel_rfl) (by rw [wrap_u]; congr 2; omega)) ?_
  refine SX.VC_df (.agg ((numB n).flatMap c8).toArray) (fun α => ⟨[⟨.int .u64 (n : Int), 0, []⟩], ⟨by kernel_rfl, by kernel_rfl, trivial⟩, .inl ⟨rfl, n, by omega, rfl, rfl⟩, SX.noAli rfl⟩) (enc8_fit _) ?_
  refine SX.VC_df (.agg ((numB n).flatMap c8).toArray) (fun α => SX.app_rel (f := c8) (l1 := [3#8]) (l2 := numB n) (fun _ => rfl) c8o (by decide) (by kernel_rfl) (SX.src_rw1 (by kernel_rfl)) (by simp only [LL]; omega) (by simp only [LL]; omega)) rfl ?_
  refine SX.VC_loop (fun xs => ∃ (i : Nat), xs = [.int .i64 (i : Int), .agg (([3#8] ++ numB n ++ (fl.take i).flatMap encF).flatMap c8).toArray] ∧ i ≤ n) (fun xs => match xs with | .int _ i :: _ => n - i.toNat | _ => 0) (fun α => ⟨0, Eq.trans (b := [.int .i64 0, .agg ([Value.agg #[w8 3#8], Value.agg ((numB n).flatMap c8).toArray].flatMap SX.cellsV).toArray]) (by kernel_rfl) (by simp [SX.cellsV, c8]), by omega⟩) ?_
  rintro xs - ⟨i, rfl, hin⟩
  have hEl := encL_len (l := fl.take i) (fun z hz => hfit z (List.mem_of_mem_take hz))
  have hEi : (fl.take i).length ≤ n := by rw [List.length_take]; omega
  obtain ⟨acc, hacc⟩ : ∃ acc, [3#8] ++ numB n ++ (fl.take i).flatMap encF = acc := ⟨_, rfl⟩
  have hal : acc.length ≤ 1099600000000 := by
    rw [← hacc]; simp only [LL]; omega
  rw [hacc]
  refine SX.D (.int .i64 (n : Int)) ?_
  refine SX.D (.bool (decide ((i : Int) < (n : Int)))) ?_
  refine SX.B (decide ((i : Int) < (n : Int))) (fun h4 => ?_) (fun h4 => ?_)
  · have h4 : i < n := by have := of_decide_eq_true h4; omega
    obtain ⟨z, hz⟩ : ∃ z, fl[i]? = some z := ⟨_, List.getElem?_eq_getElem (by omega)⟩
    have hzf := hfit z (List.mem_of_getElem? hz)
    have hzl := encF_len hzf
    have htk : [3#8] ++ numB n ++ (fl.take (i + 1)).flatMap encF = acc ++ encF z := by rw [List.take_add_one, hz, ← hacc]; simp
    refine SX.E (.bool true) (fun α => SX.extBnd (A := A) (n := n) (c := c) (j := i) hA (by kernel_rfl) (by kernel_rfl) h4) ?_
    refine SX.VC_df (valFl z) (fun α => SX.extElems (f := cellsFl) (l := fl) (A := A) (n := n) (c := c) (j := i) (z := z) cellsFl_len hA (by kernel_rfl) (by kernel_rfl) h4 ⟨rfl, rfl, rfl⟩ hz) (by cases z <;> rfl) ?_
    refine SX.VC_df (.agg ((encF z).flatMap c8).toArray) (fun α => ⟨[⟨valFl z, 0, []⟩], ⟨(by cases z <;> kernel_rfl), by kernel_rfl, trivial⟩, .inr (⟨rfl, z, hzf, rfl, rfl⟩), SX.noAli rfl⟩) (enc8_fit _) ?_
    refine SX.VC_df (.agg ((encF z).flatMap c8).toArray) (fun α => SX.app_rel (f := c8) (l1 := acc) (l2 := encF z) (fun _ => rfl) c8o (by decide) (SX.cat1 (by kernel_rfl)) (SX.src_rw1 (by kernel_rfl)) (by omega) (by omega)) rfl ?_
    refine SX.E (.int .i64 ((i + 1 : Nat) : Int)) (fun α => SX.W1 i) ?_
    exact SX.VC_again fun α => ⟨⟨i + 1, Eq.trans (b := [.int .i64 ((i + 1 : Nat) : Int), .agg ([Value.agg (acc.flatMap c8).toArray, Value.agg ((encF z).flatMap c8).toArray].flatMap SX.cellsV).toArray]) (by kernel_rfl) (by rw [htk]; simp [SX.cellsV]), by omega⟩, cast (by kernel_rfl) (show n - ((i + 1 : Nat) : Int).toNat < n - (i : Int).toNat by omega)⟩
  have h4 : i = n := by have := of_decide_eq_false h4; omega
  have he : acc = encL fl := by rw [← hacc, List.take_of_length_le (by omega)]; unfold encL; rw [hln]; simp
  rw [← he]
  exact SX.VC_ret fun α W _ hrow hS => ⟨hS.below, _, by kernel_rfl, SX.SlRet.row hS (n := 5) (b := (⟨[(.x 6 [])], 5, (.row 1)⟩ : SX.Blk)) (by kernel_rfl) rfl (hrow 5 _ (by kernel_rfl)) (Eq.trans (b := [Value.agg (acc.flatMap c8).toArray].flatMap SX.cellsV) (by kernel_rfl) (by simp [SX.cellsV]))⟩
def RY5 (K : Value → Nat → List Value → Prop) (f : FuncId) (xs : List SX.Arg) (v : Value) : Prop :=
  (f = 51 ∧ ∃ (u : Value) (fl : List Fl), xs = [⟨.agg #[.int .i64 3, .int .i64 0, .string ⟨#[]⟩, u], 0, []⟩] ∧ K u 4 (flL fl) ∧ fl.length ≤ 1048576 ∧ (∀ z ∈ fl, z.fits) ∧ v = .int .i64 0) ∨
  (f = 52 ∧ ∃ (u : Value) (fl : List Fl), xs = [⟨.agg #[.int .i64 3, .int .i64 0, .string ⟨#[]⟩, u], 0, []⟩] ∧ K u 4 (flL fl) ∧ fl.length ≤ 1048576 ∧ (∀ z ∈ fl, z.fits) ∧ v = .agg ((encL fl).flatMap c8).toArray)
def shpY5 : FuncId → Option SX.Sh := fun f => if f = 51 then some .one else if f = 52 then some (.sl 1) else none
noncomputable def cxY5 (K A : Value → Nat → List Value → Prop) : SX.Cx := { P := Tryd.prog, R := RY5, shp := shpY5, K := K, A := A }
theorem okY5 (K A : Value → Nat → List Value → Prop) : (cxY5 K A).Ok := by
  refine SX.Cx.ok_of (fun _ => rfl) ?_
  intro K f xs v W hR hrd hKf
  rcases hR with ⟨rfl, u, fl, rfl, hku, hl, hfit, rfl⟩ | ⟨rfl, u, fl, rfl, hku, hl, hfit, rfl⟩
  · obtain ⟨A, n, c, rfl, h2, h3, h4⟩ := fl_arg (hKf u 4 (flL fl) hku)
    exact (rcheck_any fl A n c W h2 (by omega) h3).mono fun e w' h => SX.plainOk rfl h
  obtain ⟨A, n, c, rfl, h2, h3, h4⟩ := fl_arg (hKf u 4 (flL fl) hku)
  exact (ren3_any fl A n c W h2 (by omega) h3 hfit).mono fun e w' h => SX.SlRet.ok1 rfl h
def tree_renc : SX.Tree :=
(.df (.call 51 [.no]) [(.a [(.k (.int .i64 3)), (.k (.int .i64 0)), (.k (.string ⟨#[]⟩)), (.x 0 [])])] .one 
(.df (.bin .neq 26) [(.x 1 []), (.k (.int .i64 0))] .one 
(.br 2 [] 
(.ret (.t [(.k (.slice none 0 0)), (.x 1 [])]) [none] []) 
(.df (.call 52 [.no]) [(.a [(.k (.int .i64 3)), (.k (.int .i64 0)), (.k (.string ⟨#[]⟩)), (.x 0 [])])] (.sl 1) 
(.ret (.t [(.row 1), (.k (.int .i64 0))]) [none, (some ⟨[(.x 3 [])], 0, (.ext 1)⟩)] [])))))
def args_renc : List SX.V := [.a [.k (.int .i64 3), .k (.int .i64 0), .k (.string ⟨#[]⟩), .x 0 []]]
set_option maxRecDepth 100000 in
theorem run_renc (K A : Value → Nat → List Value → Prop) : (SX.run (cxY5 K A) ⟨fun f => true, [], 2, 100⟩ 100000 0 (SX.door 38 Tryd.f38 args_renc [.one]) [.code (Tryd.f38.body.getD .skip), .top Tryd.f38]).strip = tree_renc := by kernel_rfl
set_option maxRecDepth 100000 in
set_option maxHeartbeats 4000000 in
theorem rencode_any (fl : List Fl) (A : Option Addr) (n c : Nat) (w : World) (hr : Rd w 4 A n (flL fl)) (hn : n ≤ 1048576) (hc : n ≤ c) (hfit : ∀ z ∈ fl, z.fits) : Calls Tryd.prog 38 #[.agg #[.int .i64 3, .int .i64 0, .string ⟨#[]⟩, .slice A n c]] w fun e w' => Below w.heap.size w w' ∧ ∃ hdr, e = .returned (.tuple #[hdr, .int .i64 0]) ∧ SX.SlRet w w' [] hdr 1 ((encL fl).flatMap c8) := by
  refine SX.calls_of_run (C := cxY5 (fun s sz cells => s = .slice A n c ∧ sz = 4 ∧ cells = flL fl) (fun _ _ _ => False)) (G := ⟨fun f => true, [], 2, 100⟩) (args := args_renc) (sh := [.one]) (ρ := [.slice A n c]) 100000 tree_renc (okY5 _ _) Tryd.func38 rfl (run_renc _ _) (by kernel_rfl) (by kernel_rfl) (by kernel_rfl) ?_ ?_
  · rintro W hW s sz cells ⟨rfl, rfl, rfl⟩; exact ⟨hr.same0 hW, hc⟩
  have hA := SX.rd_some hr
  have hln : fl.length = n := by have := hr.1; rw [flL_len] at this; omega
  unfold tree_renc
  refine SX.E (.int .i64 0) (fun α => ⟨[⟨.agg #[.int .i64 3, .int .i64 0, .string ⟨#[]⟩, .slice A n c], 0, []⟩], ⟨by kernel_rfl, by kernel_rfl, trivial⟩, .inl ⟨rfl, .slice A n c, fl, rfl, ⟨rfl, rfl, rfl⟩, by omega, hfit, rfl⟩, SX.noAli rfl⟩) ?_
  refine SX.D (.bool false) ?_
  refine SX.B false (fun h => nomatch h) (fun _ => ?_)
  refine SX.VC_df (.agg ((encL fl).flatMap c8).toArray) (fun α => ⟨[⟨.agg #[.int .i64 3, .int .i64 0, .string ⟨#[]⟩, .slice A n c], 0, []⟩], ⟨by kernel_rfl, by kernel_rfl, trivial⟩, .inr (⟨rfl, .slice A n c, fl, rfl, ⟨rfl, rfl, rfl⟩, by omega, hfit, rfl⟩), SX.noAli rfl⟩) (enc8_fit _) ?_
  exact SX.VC_ret fun α W _ hR hS => ⟨hS.below, (α 1).h, by kernel_rfl, SX.SlRet.ext0 hS (n := 1) (b := (⟨[(.x 3 [])], 0, (.ext 1)⟩ : SX.Blk)) (by kernel_rfl) rfl (hR 1 _ (by kernel_rfl)) (Eq.trans (b := [Value.agg ((encL fl).flatMap c8).toArray].flatMap SX.cellsV) (by kernel_rfl) (by simp [SX.cellsV])) (fun W2 s z xs hk => nomatch hk) (fun B s z xs hk => nomatch hk)⟩
theorem VC_spF {C : SX.Cx} {w0 : Org} {ps : List (World → Prop)} {T0 : List SX.TF} {R : Ending → World → Prop} {L : List (SX.Cx → List Value → Prop)} {ρ : List Value} {i : Nat} {p : List Nat} {l : List SX.Tree} (F : Nat → SX.Tree) (N : Nat) (hl : l = (List.range N).map F) (k : Nat) (hk : k < N) (h : p.foldl SX.comp (ρ.getD i undef) = .int .i64 (k : Int)) (ht : SX.VC C w0 ps T0 R L ρ (F k)) : SX.VC C w0 ps T0 R L ρ (.sp i p l) := by
  refine SX.VC_sp k (by rw [hl]; simpa using hk) h fun t e => ?_
  rw [hl, List.getElem?_map, List.getElem?_range hk] at e
  cases e
  exact ht
theorem SX.SlRet.ok10 {C : SX.Cx} {f : FuncId} {as' : List SX.Arg} {W W' : World} {e : Ending} {u : Value} {cells : List Value} {sz : Nat} (hs : C.sh f = .tp [.one, .sl sz]) (h : Below W.heap.size W W' ∧ ∃ hdr, e = .returned (.tuple #[u, hdr]) ∧ SX.SlRet W W' [] hdr sz cells) :
    Below W.heap.size W W' ∧ ∃ hdr, e = .returned ((C.sh f).fill hdr (.tuple #[u, .agg cells.toArray])) ∧ ∀ p z, (p, z) ∈ (C.sh f).sls [] → SX.HdrOk C f as' W W' hdr z (SX.cellsV (p.foldl SX.comp (.tuple #[u, .agg cells.toArray]))) := by
  obtain ⟨hb, hdr, he, h1, h2, h3⟩ := h
  refine ⟨hb, hdr, by rw [hs, he]; rfl, fun p z hp => ?_⟩
  rw [hs] at hp
  obtain ⟨rfl, rfl⟩ : p = [1] ∧ z = sz := by simpa [SX.Sh.sls, SX.Sh.slsL] using hp
  refine ⟨h1, h2, .inl (h3.resolve_right ?_)⟩
  rintro ⟨y, hy, _⟩
  cases hy
def textT (ls : List Lk) : ByteArray := match ls.getLast? with
  | none => noneT
  | some _ => linkT
def textB (ls : List Lk) : List W8 := match ls.getLast? with
  | none => []
  | some z => encL (flLk z)
theorem text_zero {ls : List Lk} (h : ls.length = 0) : textT ls = noneT ∧ textB ls = [] := by rw [List.length_eq_zero_iff.1 h]; exact ⟨rfl, rfl⟩
theorem text_last {ls : List Lk} {z : Lk} (h : ls[ls.length - 1]? = some z) : textT ls = linkT ∧ textB ls = encL (flLk z) := by
  unfold textT textB
  rw [List.getLast?_eq_getElem?, h]
  exact ⟨rfl, rfl⟩
theorem prev_at (z : Lk) {k : Nat} (h : k < 32) : (cellsLk z).getD (k + 2) undef = w8 (z.prev k) := by
  have : (cellsLk z)[k + 2]? = some (w8 (z.prev k)) := by
    unfold cellsLk
    rw [List.append_assoc, List.getElem?_append_right (by simp), List.getElem?_append_left (by simp; omega)]
    simp [List.getElem?_range h]
  rw [List.getD_eq_getElem?_getD, this]
  rfl
theorem dgL_take (f : Nat → W8) {k : Nat} (h : k < 32) : (dgL f).take (k + 1) = (dgL f).take k ++ [f k] := by
  rw [List.take_add_one]
  congr 1
  unfold dgL
  simp [List.getElem?_range h]
theorem fit01 (u : Value) (h : u.oneCell' = true) (l : List W8) : SX.Sh.fit (.tp [.one, .sl 1]) (.tuple #[u, .agg (l.flatMap c8).toArray]) = true := by
  have h2 : (l.flatMap c8).all (·.oneCell') = true := by
    rw [List.all_eq_true]
    intro u hu
    obtain ⟨a, _, h⟩ := List.mem_flatMap.1 hu
    exact c8o a u h
  have h1 : (l.flatMap c8).length % 1 = 0 := Nat.mod_one _
  simp only [SX.Sh.fit, SX.Sh.fitL, h1, h2, h]
  rfl
def RQ6 (K : Value → Nat → List Value → Prop) (f : FuncId) (xs : List SX.Arg) (v : Value) : Prop :=
  (f = 40 ∧ ∃ (u : Value) (l : List W8), xs = [⟨u, 1, l.flatMap c8⟩] ∧ v = .agg #[.int .i64 2, .int .i64 0, .string (bt l), .slice none 0 0]) ∨
  (f = 38 ∧ ∃ (hdr : Value) (fl : List Fl), xs = [⟨.agg #[.int .i64 3, .int .i64 0, .string ⟨#[]⟩, hdr], 0, []⟩] ∧ K hdr 4 (flL fl) ∧ fl.length ≤ 1048576 ∧ (∀ z ∈ fl, z.fits) ∧ v = .tuple #[.agg ((encL fl).flatMap c8).toArray, .int .i64 0])
def shpQ6 : FuncId → Option SX.Sh := fun f => if f = 40 then some (.ag 4) else if f = 38 then some (.tp [.sl 1, .one]) else none
noncomputable def cxQ6 (K A : Value → Nat → List Value → Prop) : SX.Cx := { P := Tryd.prog, R := RQ6, shp := shpQ6, K := K, A := A, trm := true }
theorem okQ6 (K A : Value → Nat → List Value → Prop) : (cxQ6 K A).Ok := by
  refine SX.Cx.ok_of (fun _ => rfl) ?_
  intro K f xs v W hR hrd hKf
  rcases hR with ⟨rfl, u, l, rfl, rfl⟩ | ⟨rfl, hdr, fl, rfl, hk, hl, hf, rfl⟩
  · obtain ⟨A, n, c, rfl, hr, hc, -⟩ := byte_arg (hrd ⟨u, 1, l.flatMap c8⟩ (by simp))
    exact (rtxt_any l A n c W hr hc).mono fun e w' h => SX.plainOk rfl h
  obtain ⟨A, n, c, rfl, h2, h3, h4⟩ := fl_arg (hKf _ _ _ hk)
  exact (rencode_any fl A n c W h2 (by omega) h3 hf).mono fun e w' h => SX.SlRet.ok0 rfl h
def tree_rtext : SX.Tree :=
(.df (.len false) [(.q 0)] .one
(.df (.bin .eql 3) [(.q 1), (.i 0)] .one
(.br 2 []
(.ret (.t [(.k (.string ⟨#[110, 111, 110, 101]⟩)), (.k (.slice none 0 0))]) [] [])
(.df (.len false) [(.q 0)] .one
(.df (.bin .sub 3) [(.q 3), (.i 1)] .one
(.df .bnd [(.q 0), (.q 4)] .one
(.df (.elems 35 0 35) [(.q 0), (.q 4)] (.ag 35)
(.loop [(.i 0), (.cat [])] [.one, .any]
(.df (.bin .lss 3) [(.q 7), (.i 32)] .one
(.br 9 []
(.sp 7 [] [
(.df (.app 1 1 (.own 1 [(.x 6 [2])])) [(.cat [(.q 8)]), (.sl 4 0 1 1)] .any
(.again 0 [(.i 1), (.cat [(.q 8), (.q 10)])])),
(.df (.app 1 1 (.own 1 [(.x 6 [3])])) [(.cat [(.q 8)]), (.sl 4 0 1 1)] .any
(.again 0 [(.i 2), (.cat [(.q 8), (.q 10)])])),
(.df (.app 1 1 (.own 1 [(.x 6 [4])])) [(.cat [(.q 8)]), (.sl 4 0 1 1)] .any
(.again 0 [(.i 3), (.cat [(.q 8), (.q 10)])])),
(.df (.app 1 1 (.own 1 [(.x 6 [5])])) [(.cat [(.q 8)]), (.sl 4 0 1 1)] .any
(.again 0 [(.i 4), (.cat [(.q 8), (.q 10)])])),
(.df (.app 1 1 (.own 1 [(.x 6 [6])])) [(.cat [(.q 8)]), (.sl 4 0 1 1)] .any
(.again 0 [(.i 5), (.cat [(.q 8), (.q 10)])])),
(.df (.app 1 1 (.own 1 [(.x 6 [7])])) [(.cat [(.q 8)]), (.sl 4 0 1 1)] .any
(.again 0 [(.i 6), (.cat [(.q 8), (.q 10)])])),
(.df (.app 1 1 (.own 1 [(.x 6 [8])])) [(.cat [(.q 8)]), (.sl 4 0 1 1)] .any
(.again 0 [(.i 7), (.cat [(.q 8), (.q 10)])])),
(.df (.app 1 1 (.own 1 [(.x 6 [9])])) [(.cat [(.q 8)]), (.sl 4 0 1 1)] .any
(.again 0 [(.i 8), (.cat [(.q 8), (.q 10)])])),
(.df (.app 1 1 (.own 1 [(.x 6 [10])])) [(.cat [(.q 8)]), (.sl 4 0 1 1)] .any
(.again 0 [(.i 9), (.cat [(.q 8), (.q 10)])])),
(.df (.app 1 1 (.own 1 [(.x 6 [11])])) [(.cat [(.q 8)]), (.sl 4 0 1 1)] .any
(.again 0 [(.i 10), (.cat [(.q 8), (.q 10)])])),
(.df (.app 1 1 (.own 1 [(.x 6 [12])])) [(.cat [(.q 8)]), (.sl 4 0 1 1)] .any
(.again 0 [(.i 11), (.cat [(.q 8), (.q 10)])])),
(.df (.app 1 1 (.own 1 [(.x 6 [13])])) [(.cat [(.q 8)]), (.sl 4 0 1 1)] .any
(.again 0 [(.i 12), (.cat [(.q 8), (.q 10)])])),
(.df (.app 1 1 (.own 1 [(.x 6 [14])])) [(.cat [(.q 8)]), (.sl 4 0 1 1)] .any
(.again 0 [(.i 13), (.cat [(.q 8), (.q 10)])])),
(.df (.app 1 1 (.own 1 [(.x 6 [15])])) [(.cat [(.q 8)]), (.sl 4 0 1 1)] .any
(.again 0 [(.i 14), (.cat [(.q 8), (.q 10)])])),
(.df (.app 1 1 (.own 1 [(.x 6 [16])])) [(.cat [(.q 8)]), (.sl 4 0 1 1)] .any
(.again 0 [(.i 15), (.cat [(.q 8), (.q 10)])])),
(.df (.app 1 1 (.own 1 [(.x 6 [17])])) [(.cat [(.q 8)]), (.sl 4 0 1 1)] .any
(.again 0 [(.i 16), (.cat [(.q 8), (.q 10)])])),
(.df (.app 1 1 (.own 1 [(.x 6 [18])])) [(.cat [(.q 8)]), (.sl 4 0 1 1)] .any
(.again 0 [(.i 17), (.cat [(.q 8), (.q 10)])])),
(.df (.app 1 1 (.own 1 [(.x 6 [19])])) [(.cat [(.q 8)]), (.sl 4 0 1 1)] .any
(.again 0 [(.i 18), (.cat [(.q 8), (.q 10)])])),
(.df (.app 1 1 (.own 1 [(.x 6 [20])])) [(.cat [(.q 8)]), (.sl 4 0 1 1)] .any
(.again 0 [(.i 19), (.cat [(.q 8), (.q 10)])])),
(.df (.app 1 1 (.own 1 [(.x 6 [21])])) [(.cat [(.q 8)]), (.sl 4 0 1 1)] .any
(.again 0 [(.i 20), (.cat [(.q 8), (.q 10)])])),
(.df (.app 1 1 (.own 1 [(.x 6 [22])])) [(.cat [(.q 8)]), (.sl 4 0 1 1)] .any
(.again 0 [(.i 21), (.cat [(.q 8), (.q 10)])])),
(.df (.app 1 1 (.own 1 [(.x 6 [23])])) [(.cat [(.q 8)]), (.sl 4 0 1 1)] .any
(.again 0 [(.i 22), (.cat [(.q 8), (.q 10)])])),
(.df (.app 1 1 (.own 1 [(.x 6 [24])])) [(.cat [(.q 8)]), (.sl 4 0 1 1)] .any
(.again 0 [(.i 23), (.cat [(.q 8), (.q 10)])])),
(.df (.app 1 1 (.own 1 [(.x 6 [25])])) [(.cat [(.q 8)]), (.sl 4 0 1 1)] .any
(.again 0 [(.i 24), (.cat [(.q 8), (.q 10)])])),
(.df (.app 1 1 (.own 1 [(.x 6 [26])])) [(.cat [(.q 8)]), (.sl 4 0 1 1)] .any
(.again 0 [(.i 25), (.cat [(.q 8), (.q 10)])])),
(.df (.app 1 1 (.own 1 [(.x 6 [27])])) [(.cat [(.q 8)]), (.sl 4 0 1 1)] .any
(.again 0 [(.i 26), (.cat [(.q 8), (.q 10)])])),
(.df (.app 1 1 (.own 1 [(.x 6 [28])])) [(.cat [(.q 8)]), (.sl 4 0 1 1)] .any
(.again 0 [(.i 27), (.cat [(.q 8), (.q 10)])])),
(.df (.app 1 1 (.own 1 [(.x 6 [29])])) [(.cat [(.q 8)]), (.sl 4 0 1 1)] .any
(.again 0 [(.i 28), (.cat [(.q 8), (.q 10)])])),
(.df (.app 1 1 (.own 1 [(.x 6 [30])])) [(.cat [(.q 8)]), (.sl 4 0 1 1)] .any
(.again 0 [(.i 29), (.cat [(.q 8), (.q 10)])])),
(.df (.app 1 1 (.own 1 [(.x 6 [31])])) [(.cat [(.q 8)]), (.sl 4 0 1 1)] .any
(.again 0 [(.i 30), (.cat [(.q 8), (.q 10)])])),
(.df (.app 1 1 (.own 1 [(.x 6 [32])])) [(.cat [(.q 8)]), (.sl 4 0 1 1)] .any
(.again 0 [(.i 31), (.cat [(.q 8), (.q 10)])])),
(.df (.app 1 1 (.own 1 [(.x 6 [33])])) [(.cat [(.q 8)]), (.sl 4 0 1 1)] .any
(.again 0 [(.i 32), (.cat [(.q 8), (.q 10)])]))])
(.df (.call 40 [(.row 1 [(.q 8)])]) [(.row 3)] (.ag 4)
(.df (.call 40 [(.ext 1)]) [(.x 6 [34])] (.ag 4)
(.df (.callg 38 [.no] [(.own 4 [(.i 1), (.x 6 [0]), (.k (.string ⟨#[]⟩)), (.k (.slice none 0 0)), (.i 1), (.x 6 [1]), (.k (.string ⟨#[]⟩)), (.k (.slice none 0 0)), (.x 10 [0]), (.x 10 [1]), (.x 10 [2]), (.x 10 [3]), (.x 11 [0]), (.x 11 [1]), (.x 11 [2]), (.x 11 [3])])]) [(.a [(.i 3), (.i 0), (.k (.string ⟨#[]⟩)), (.sl 15 0 4 4)]), (.sl 15 0 4 4)] (.tp [(.sl 1), .one])
(.ret (.t [(.k (.string ⟨#[108, 105, 110, 107]⟩)), (.row 17)]) (List.replicate 17 none ++ [(some ⟨[(.x 12 [0])], 0, (.ext 1)⟩)]) []))))))))))))))
def args_rtext : List SX.V := [.x 0 []]
set_option maxRecDepth 100000 in
theorem run_rtext (K A : Value → Nat → List Value → Prop) : (SX.run (cxQ6 K A) ⟨fun f => true, [⟨31, 6, [(.s 6, .one), (.s 5, .row 1 5)]⟩], 2, 100⟩ 100000 0 (SX.door 31 Tryd.f31 args_rtext [.one]) [.code (Tryd.f31.body.getD .skip), .top Tryd.f31]).strip = tree_rtext := by kernel_rfl
set_option maxRecDepth 100000 in
set_option maxHeartbeats 4000000 in
theorem rtext_any (ls : List Lk) (A : Option Addr) (n c : Nat) (w : World) (hr : Rd w 35 A n (lkL ls)) (hc : n ≤ c) (hn : n ≤ 4611686018427387904) (hd : ∀ z ∈ ls, z.rd w) (hfit : ∀ z ∈ ls, z.fit) (hlaid : Laid w) : Calls Tryd.prog 31 #[.slice A n c] w fun e w' => Below w.heap.size w w' ∧ ∃ hdr, e = .returned (.tuple #[.string (textT ls), hdr]) ∧ SX.SlRet w w' [] hdr 1 ((textB ls).flatMap c8) := by
  refine SX.calls_of_run (C := cxQ6 (KL A n c ls) (fun _ _ _ => False)) (G := ⟨fun f => true, [⟨31, 6, [(.s 6, .one), (.s 5, .row 1 5)]⟩], 2, 100⟩) (args := args_rtext) (sh := [.one]) (ρ := [.slice A n c]) 100000 tree_rtext (okQ6 _ _) Tryd.func31 rfl (run_rtext _ _) (by kernel_rfl) (by kernel_rfl) (by kernel_rfl) ?_ ?_
  · exact fun W hW => KL_rd hW hr hd hlaid
  have hA := SX.rd_some hr
  have hlc : (lkL ls).length = n * 35 := hr.1
  have hln : ls.length = n := by rw [lkL_len] at hlc; omega
  unfold tree_rtext
  refine SX.D (.int .i64 (((n : Nat) : Int))) ?_
  refine SX.D (.bool ((((n : Nat) : Int) : Int) == 0)) ?_
  refine SX.B ((((n : Nat) : Int) : Int) == 0) (fun h2 => ?_) (fun h2 => ?_)
  · try simp only [NRM] at h2
    obtain ⟨q1, q2⟩ := text_zero (ls := ls) (by (try simp at h2); omega)
    exact SX.VC_ret fun α W _ _ hS => ⟨hS.below, _, by rw [q1]; rfl, by rw [q2]; exact SX.SlRet.nil⟩
  try simp only [NRM] at h2
  refine SX.D (.int .i64 (((n : Nat) : Int))) ?_
  refine SX.E (.int .i64 (((n - 1 : Nat) : Int))) (fun α => Eq.trans (b := some (.int .i64 (IntKind.i64.wrap ((n : Nat) - 1)))) (by kernel_rfl) (by rw [show ((n - 1 : Nat) : Int) = ((n : Nat) : Int) - 1 by omega, wrap_i64 (by omega) (by omega)])) ?_
  have hpos : 0 < n := by (try simp at h2); omega
  obtain ⟨z, hz⟩ : ∃ z, ls[n - 1]? = some z := ⟨_, List.getElem?_eq_getElem (by omega)⟩
  have hzm := List.mem_of_getElem? hz
  refine SX.E (.bool true) (fun α => SX.extBnd (A := A) (n := n) (c := c) (j := n - 1) hA (by kernel_rfl) (by kernel_rfl) (by omega)) ?_
  refine SX.E (.agg (cellsLk z).toArray) (fun α => SX.extElems (f := cellsLk) (l := ls) (A := A) (n := n) (c := c) (j := n - 1) (z := z) (fun _ => rfl) hA (by kernel_rfl) (by kernel_rfl) (by omega) (.inl (SX.SubK.full hlc hc)) hz) ?_
  refine SX.VC_loop (fun xs => ∃ (i : Nat), xs = [.int .i64 (i : Int), .agg (((dgL z.prev).take i).flatMap c8).toArray] ∧ i ≤ 32) (fun xs => match xs with | .int _ i :: _ => 32 - i.toNat | _ => 0) (fun α => ⟨0, by kernel_rfl, by omega⟩) ?_
  rintro xs - ⟨i, rfl, hin⟩
  refine SX.D (.bool (decide (((i : Nat) : Int) < 32))) ?_
  refine SX.B (decide (((i : Nat) : Int) < 32)) (fun h9 => ?_) (fun h9 => ?_)
  · try simp only [NRM] at h9
    have h32 : i < 32 := by omega
    refine VC_spF (fun k => .df (.app 1 1 (.own 1 [(.x 6 [k + 2])])) [(.cat [(.x 8 [])]), (.sl 4 0 1 1)] .any (.again 0 [(.k (.int .i64 ((k + 1 : Nat) : Int))), (.cat [(.x 8 []), (.x 10 [])])])) 32 (by kernel_rfl) i h32 (by kernel_rfl) ?_
    have hacc : ((dgL z.prev).take i).length ≤ 32 := by rw [List.length_take]; omega
    refine SX.E (Value.agg (([z.prev i]).flatMap c8).toArray) (fun α => SX.app_rel (f := c8) (l1 := (dgL z.prev).take i) (l2 := [z.prev i]) (fun _ => rfl) c8o (by decide) (SX.cat1 (by kernel_rfl)) (SX.src_own (Eq.trans (b := [(cellsLk z).getD (i + 2) undef]) (by kernel_rfl) (by rw [prev_at z h32]; rfl))) (by simp only [LL]; omega) (by simp only [LL]; omega)) ?_
    exact SX.VC_again fun α => ⟨⟨i + 1, Eq.trans (b := [.int .i64 ((i + 1 : Nat) : Int), .agg ([Value.agg (((dgL z.prev).take i).flatMap c8).toArray, Value.agg (([z.prev i]).flatMap c8).toArray].flatMap SX.cellsV).toArray]) (by kernel_rfl) (by rw [dgL_take _ h32]; simp [SX.cellsV]), by omega⟩, cast (by kernel_rfl) (show 32 - ((i + 1 : Nat) : Int).toNat < 32 - (i : Int).toNat by omega)⟩
  try simp only [NRM] at h9
  refine SX.E (.agg #[.int .i64 2, .int .i64 0, .string ((bt (dgL z.prev))), (.slice none 0 0)]) (fun α => ⟨[⟨(α 3).h, 1, (dgL z.prev).flatMap c8⟩], ⟨Eq.trans (b := (⟨(α 3).h, 1, [Value.agg (((dgL z.prev).take i).flatMap c8).toArray].flatMap SX.cellsV⟩ : SX.Arg)) (by rw [show i = 32 by omega]; rfl) (by kernel_rfl), trivial⟩, .inl ⟨rfl, _, dgL z.prev, rfl, rfl⟩, SX.noAli rfl⟩) ?_
  refine SX.E (.agg #[.int .i64 2, .int .i64 0, .string z.tx, (.slice none 0 0)]) (fun α => ⟨[⟨z.hdr, 1, (sb z.tx).flatMap c8⟩], ⟨by kernel_rfl, by kernel_rfl, KL_data hzm, trivial⟩, .inl ⟨rfl, _, sb z.tx, rfl, by rw [bt_sb]⟩, SX.noAli rfl⟩) ?_
  refine SX.VC_df (.tuple #[Value.agg ((encL (flLk z)).flatMap c8).toArray, .int .i64 0]) (fun α => ⟨[⟨.agg #[.int .i64 3, .int .i64 0, .string ⟨#[]⟩, .slice (some ⟨(α 15).b, 0, none⟩) 4 4], 0, []⟩], [⟨.slice (some ⟨(α 15).b, 0, none⟩) 4 4, 4, flL (flLk z)⟩], ⟨by kernel_rfl, by kernel_rfl, trivial⟩, ⟨by kernel_rfl, trivial⟩, .inr (⟨rfl, _, flLk z, rfl, .inr (by simp), (by show (4 : Nat) ≤ _; decide), flLk_fits (hfit z hzm), rfl⟩), SX.noAli rfl⟩) ((enc_fit _ _)) ?_
  obtain ⟨q1, q2⟩ := text_last (ls := ls) (by rw [hln]; exact hz)
  exact SX.VC_ret fun α W _ hR hS => ⟨hS.below, (α 17).h, by rw [q1]; kernel_rfl, by rw [q2]; exact SX.SlRet.ext0 hS (n := 17) (b := (⟨[(.x 12 [0])], 0, (.ext 1)⟩ : SX.Blk)) (by kernel_rfl) rfl (hR 17 _ (by kernel_rfl)) (Eq.trans (b := [Value.agg ((encL (flLk z)).flatMap c8).toArray].flatMap SX.cellsV) (by kernel_rfl) (by simp [SX.cellsV])) (fun W2 s z xs hk => nomatch hk) (fun B s z xs hk => nomatch hk)⟩
def sameL (a b : List Lk) : Prop := a.length = b.length ∧ sameTo a b a.length
noncomputable instance (a b : List Lk) : Decidable (sameL a b) := Classical.propDecidable _
def fewL (ls : List Lk) : Prop := ls.length ≤ 16 ∧ ∀ z ∈ ls, z.n ≤ 300
noncomputable instance (ls : List Lk) : Decidable (fewL ls) := Classical.propDecidable _
noncomputable def fewB (ls : List Lk) : Bool := decide (fewL ls)
theorem fewB_iff {ls : List Lk} : fewB ls = true ↔ fewL ls := by unfold fewB; exact decide_eq_true_iff
theorem fewB_no {ls : List Lk} (h : ¬ fewL ls) : fewB ls = false := by unfold fewB; exact decide_eq_false h
theorem few_succ {ls : List Lk} {i : Nat} {z : Lk} (h10 : z.n ≤ 300) (hok : ∀ (j : Nat) (z : Lk), j < i → ls[j]? = some z → z.n ≤ 300) (hz : ls[i]? = some z) {j : Nat} {y : Lk} (hj : j < i + 1) (hy : ls[j]? = some y) : y.n ≤ 300 := by
  by_cases e : j = i
  · subst e; rw [hz] at hy; cases hy; exact h10
  exact hok j y (by omega) hy
def tree_rfew : SX.Tree :=
(.df (.len false) [(.q 0)] .one
(.df (.bin .gtr 3) [(.q 1), (.i 16)] .one
(.br 2 []
(.ret (.k (.bool false)) [] [])
(.loop [(.i 0)] [.one]
(.df (.len false) [(.q 0)] .one
(.df (.bin .lss 3) [(.q 3), (.q 4)] .one
(.br 5 []
(.df .bnd [(.q 0), (.q 3)] .one
(.df .bnd [(.q 0), (.q 3)] .one
(.df (.elem 35 34) [(.q 0), (.q 3)] .one
(.df (.len false) [(.q 8)] .one
(.df (.bin .gtr 3) [(.q 9), (.i 300)] .one
(.br 10 []
(.ret (.k (.bool false)) [] [])
(.df (.bin .add 3) [(.q 3), (.i 1)] .one
(.again 0 [(.q 11)]))))))))
(.ret (.k (.bool true)) [] []))))))))
def args_rfew : List SX.V := [.x 0 []]
set_option maxRecDepth 100000 in
theorem run_rfew (K A : Value → Nat → List Value → Prop) : (SX.run (cx0 K A) ⟨fun f => true, [⟨9, 4, [(.s 3, .one)]⟩], 0, 100⟩ 100000 0 (SX.door 9 Tryd.f9 args_rfew [.one]) [.code (Tryd.f9.body.getD .skip), .top Tryd.f9]).strip = tree_rfew := by kernel_rfl
set_option maxRecDepth 100000 in
set_option maxHeartbeats 4000000 in
theorem rfew_any (ls : List Lk) (A : Option Addr) (n c : Nat) (w : World) (hr : Rd w 35 A n (lkL ls)) (hc : n ≤ c) (hn : n ≤ 9223372036854775807) (hlaid : Laid w) : Calls Tryd.prog 9 #[.slice A n c] w fun e w' => e = .returned (.bool (fewB ls)) ∧ Below w.heap.size w w' := by
  refine SX.calls_of_run (C := cx0 (SX.SubK A n c 35 (lkL ls)) (fun _ _ _ => False)) (G := ⟨fun f => true, [⟨9, 4, [(.s 3, .one)]⟩], 0, 100⟩) (args := args_rfew) (sh := [.one]) (ρ := [.slice A n c]) 100000 tree_rfew (cx0_ok _ _) Tryd.func9 rfl (run_rfew _ _) (by kernel_rfl) (by kernel_rfl) (by kernel_rfl) ?_ ?_
  · exact fun W hW s sz cells h => SX.SubK.rd (hr.same0 hW) h
  have hA := SX.rd_some hr
  have hlc : (lkL ls).length = n * 35 := hr.1
  have hln : ls.length = n := by rw [lkL_len] at hlc; omega
  unfold tree_rfew
  refine SX.D (.int .i64 (((n : Nat) : Int))) ?_
  refine SX.D (.bool (decide (((n : Nat) : Int) > 16))) ?_
  refine SX.B (decide (((n : Nat) : Int) > 16)) (fun h2 => ?_) (fun h2 => ?_)
  · try simp only [NRM] at h2
    exact SX.F (.bool false) (by rw [fewB_no fun hk => by have := hk.1; rw [hln] at this; (try simp at h2); omega])
  try simp only [NRM] at h2
  refine SX.VC_loop (fun xs => ∃ (i : Nat), xs = [.int .i64 (i : Int)] ∧ i ≤ n ∧ ∀ (j : Nat) (z : Lk), j < i → ls[j]? = some z → z.n ≤ 300) (fun xs => match xs with | .int _ i :: _ => n - i.toNat | _ => 0) (fun α => ⟨0, by kernel_rfl, by omega, fun j z h => absurd h (Nat.not_lt_zero _)⟩) ?_
  rintro xs - ⟨i, rfl, hin, hok⟩
  refine SX.D (.int .i64 (((n : Nat) : Int))) ?_
  refine SX.D (.bool (decide (((i : Nat) : Int) < ((n : Nat) : Int)))) ?_
  refine SX.B (decide (((i : Nat) : Int) < ((n : Nat) : Int))) (fun h5 => ?_) (fun h5 => ?_)
  · try simp only [NRM] at h5
    obtain ⟨z, hz⟩ : ∃ z, ls[i]? = some z := ⟨_, List.getElem?_eq_getElem (by omega)⟩
    have hzm := List.mem_of_getElem? hz
    refine SX.E (.bool true) (fun α => SX.extBnd (A := A) (n := n) (c := c) (j := i) hA (by kernel_rfl) (by kernel_rfl) (by omega)) ?_
    refine SX.E (.bool true) (fun α => SX.extBnd (A := A) (n := n) (c := c) (j := i) hA (by kernel_rfl) (by kernel_rfl) (by omega)) ?_
    refine SX.E (z.hdr) (fun α => SX.extElem (o := 34) (v := z.hdr) (f := cellsLk) (l := ls) (A := A) (n := n) (c := c) (j := i) (z := z) (fun _ => rfl) hA (by kernel_rfl) (by kernel_rfl) (by omega) (SX.SubK.full hlc hc) hz (by decide) (by kernel_rfl)) ?_
    refine SX.D (.int .i64 (((z.n : Nat) : Int))) ?_
    refine SX.D (.bool (decide (((z.n : Nat) : Int) > 300))) ?_
    refine SX.B (decide (((z.n : Nat) : Int) > 300)) (fun h10 => ?_) (fun h10 => ?_)
    · try simp only [NRM] at h10
      exact SX.F (.bool false) (by rw [fewB_no fun hk => by have := hk.2 z hzm; (try simp at h10); omega])
    try simp only [NRM] at h10
    refine SX.E (.int .i64 (((i + 1 : Nat) : Int))) (fun α => SX.W1 i) ?_
    exact SX.VC_again fun α => ⟨⟨i + 1, by kernel_rfl, by omega, fun j y hj hy => few_succ (by omega) hok hz hj hy⟩, cast (by kernel_rfl) (show n - ((i + 1 : Nat) : Int).toNat < n - (i : Int).toNat by omega)⟩
  try simp only [NRM] at h5
  exact SX.F (.bool true) (by rw [fewB_iff.2 ⟨by rw [hln]; (try simp at h2); omega, fun z hz => by obtain ⟨j, hj, e⟩ := List.getElem_of_mem hz; exact hok j z (by omega) (by rw [List.getElem?_eq_getElem hj, e])⟩])
def mkLk (ls : List Lk) (node : Int) (A : Option Addr) (c : Nat) (tx : ByteArray) : Lk := ⟨node, (ls.length : Int), headF ls, A, tx.size, c, tx⟩
def addL (ls : List Lk) (node : Int) (A : Option Addr) (c : Nat) (tx : ByteArray) : List Lk := ls ++ [mkLk ls node A c tx]
theorem addL_len (ls : List Lk) (node : Int) (A : Option Addr) (c : Nat) (tx : ByteArray) : (addL ls node A c tx).length = ls.length + 1 := by simp [addL]
theorem addL_all {P : Lk → Prop} {ls : List Lk} {node : Int} {A : Option Addr} {c : Nat} {tx : ByteArray} (h : ∀ z ∈ ls, P z) (h2 : P (mkLk ls node A c tx)) : ∀ z ∈ addL ls node A c tx, P z := fun z hz => by
  rcases List.mem_append.1 hz with hz | hz
  · exact h z hz
  obtain rfl := List.mem_singleton.1 hz
  exact h2
theorem addL_old {ls : List Lk} {node : Int} {A : Option Addr} {c : Nat} {tx : ByteArray} {i : Nat} (h : i < ls.length) : (addL ls node A c tx)[i]? = ls[i]? := by unfold addL; rw [List.getElem?_append_left h]
theorem addL_new {ls : List Lk} {node : Int} {A : Option Addr} {c : Nat} {tx : ByteArray} : (addL ls node A c tx)[ls.length]? = some (mkLk ls node A c tx) := by unfold addL; simp
theorem chkE_to {ls : List Lk} (h : chkE ls = 0) : okTo ls ls.length := by
  unfold chkE at h
  split at h
  · cases h
  by_cases h2 : okTo ls ls.length
  · exact h2
  rw [if_neg h2] at h; cases h
theorem chk_add {ls : List Lk} {node : Int} {A : Option Addr} {c : Nat} {tx : ByteArray} (h2 : addE ls node tx.size = 0) : chkE (addL ls node A c tx) = 0 := by
  have h : chkE ls = 0 := by
    by_cases hc : chkE ls = 0
    · exact hc
    rw [addE_chk hc] at h2; exact h2
  have hb : ¬ badArg ls node tx.size := fun hk => by rw [addE_arg h hk] at h2; cases h2
  have hn : ls.length ≠ 1024 := fun hk => by rw [addE_full h hb hk] at h2; cases h2
  have hl := chkE_len h
  have hok := chkE_to h
  refine chkE_ok (by rw [addL_len]; omega) fun i z hi hz => ?_
  rw [addL_len] at hi
  have hbb : ¬ node < 0 ∧ ¬ 24 ≤ node ∧ (∀ z0, ls[0]? = some z0 → node = z0.node) ∧ ¬ 65536 < tx.size := ⟨fun k => hb (.inl k), fun k => hb (.inr (.inl k)), fun z0 hz0 => Classical.byContradiction fun k => hb (.inr (.inr (.inl ⟨z0, hz0, k⟩))), fun k => hb (.inr (.inr (.inr k)))⟩
  by_cases hlt : i < ls.length
  · rw [addL_old hlt] at hz
    obtain ⟨⟨z0, hz0, k1⟩, k2, k3, k4, k5, k6⟩ := hok i z hlt hz
    refine ⟨⟨z0, by rw [addL_old (by omega)]; exact hz0, k1⟩, k2, k3, k4, k5, ?_⟩
    rw [show (addL ls node A c tx).take i = ls.take i by unfold addL; rw [List.take_append_of_le_length (by omega)]]
    exact k6
  obtain rfl : i = ls.length := by omega
  rw [addL_new] at hz
  cases hz
  refine ⟨?_, by show 0 ≤ node; omega, by show node < 24; omega, rfl, by show tx.size ≤ 65536; omega, ?_⟩
  · cases ls with
    | nil => exact ⟨_, rfl, rfl⟩
    | cons y l => exact ⟨y, rfl, hbb.2.2.1 y rfl⟩
  rw [show (addL ls node A c tx).take ls.length = ls by unfold addL; simp]
  rfl
def RnA (K : Value → Nat → List Value → Prop) (f : FuncId) (xs : List SX.Arg) (Q : Value → List SX.Arg → Prop) : Prop := f = 10 ∧ ∃ (u : Value) (ls : List Lk) (node : Int) (v : Value) (tx : ByteArray), xs = [⟨u, 35, lkL ls⟩, ⟨.int .i64 node, 0, []⟩, ⟨v, 1, (sb tx).flatMap c8⟩] ∧ LaidK K ∧ ls.length ≤ 4611686018427387904 ∧ (∀ z ∈ ls, z.kn K ∧ z.fit) ∧ tx.size ≤ 9223372036854775807 ∧ (-9223372036854775808 ≤ node ∧ node ≤ 9223372036854775807) ∧
  (addE ls node tx.size ≠ 0 → Q (.tuple #[.slice none 0 0, .int .i64 (addE ls node tx.size)]) []) ∧
  (addE ls node tx.size = 0 → ∀ A c A2 c2, A.isSome = true → ls.length + 1 ≤ c → tx.size ≤ c2 → Q (.tuple #[.slice A (ls.length + 1) c, .int .i64 0]) (⟨.slice A (ls.length + 1) c, 35, lkL (addL ls node A2 c2 tx)⟩ :: ⟨.slice A2 tx.size c2, 1, (sb tx).flatMap c8⟩ :: ⟨SX.subS A 35 1 (ls.length + 1) c, 35, lkL ((addL ls node A2 c2 tx).drop 1)⟩ :: ⟨SX.subS A 35 0 ls.length c, 35, lkL ls⟩ :: (List.range (ls.length + 2)).map fun j => (⟨SX.subS A 35 0 j c, 35, lkL ((addL ls node A2 c2 tx).take j)⟩ : SX.Arg)))
def nshA : FuncId → Option SX.Sh := fun f => if f = 10 then some (.tp [.one, .one]) else none
theorem rnA_ok (C : SX.Cx) (hP : C.P = Tryd.prog) (hs : C.nsh = nshA) (hR : C.Rn = RnA) : C.OkN := by
  intro f sh hf K xs Q W h hrd hK
  rw [hR] at h
  rw [hs] at hf
  rw [hP]
  obtain ⟨rfl, u, ls, node, v, tx, rfl, hL, hb, hk, htx, hnode, h1, h2⟩ := h
  have hf : some (SX.Sh.tp [.one, .one]) = some sh := hf
  cases hf
  obtain ⟨A, n, c, rfl, hr, hc, hln⟩ := lk_arg (hrd ⟨u, 35, lkL ls⟩ (by simp))
  obtain ⟨B, m, d, rfl, hr2, hc2, hlm⟩ := byte_arg (hrd ⟨v, 1, (sb tx).flatMap c8⟩ (by simp))
  have hm : m = tx.size := by rw [← hlm, sb_len]
  subst hm
  refine (add_any ls A n c node tx B tx.size d W hr hc (by omega) (fun z hz => (hk z hz).1.rd hK) (fun z hz => (hk z hz).2) (laid_of hL hK) hr2 hc2 htx hnode).mono fun e w' ⟨hbel, h⟩ => ⟨hbel, ?_⟩
  rcases h with ⟨hne, rfl⟩ | ⟨he, hdr, A2, n2, c2, rfl, ⟨⟨A1, n1, c1, rfl, _⟩, hr3, hf3⟩, ⟨_, hr4, hf4⟩⟩
  · exact ⟨_, [], rfl, rfl, h1 hne, fun y hy => nomatch hy⟩
  have e2 : n2 = tx.size := by have h : ((sb tx).flatMap c8).length = n2 * 1 := hr4.1.1; rw [SX.flat_len c8_len, sb_len] at h; omega
  subst e2
  have e1 : n1 = ls.length + 1 := by have h : (lkL _).length = n1 * 35 := hr3.1.1; rw [lkL_len, List.length_append] at h; simp only [List.length_cons, List.length_nil] at h; omega
  subst e1
  have hf3 := hf3.resolve_right fun ⟨y, hy, _⟩ => nomatch hy
  have hf4 := hf4.resolve_right fun ⟨y, hy, _⟩ => nomatch hy
  have hA1 : A1.isSome = true := SX.rd_some hr3.1 (by omega)
  refine ⟨_, _, rfl, rfl, h2 he A1 c1 A2 c2 hA1 hr3.2 hr4.2, fun y hy => ?_⟩
  have hSub := fun l h m (hl1 : l ≤ h) (hl2 : h ≤ ls.length + 1) (hl3 : h ≤ m) (hl4 : m ≤ c1) => SX.SubK.part (f := cellsLk) (sz := 35) cellsLk_len (A := A1) (n := ls.length + 1) (c := c1) (L := addL ls node A2 c2 tx) (l := l) (h := h) (m := m) hl1 hl2 hl3 hl4
  simp only [List.mem_cons, List.mem_map, List.mem_range] at hy
  rcases hy with rfl | rfl | rfl | rfl | ⟨j, hj, rfl⟩
  · exact ⟨hr3, hf3⟩
  · exact ⟨hr4, hf4⟩
  · have := hSub 1 (ls.length + 1) c1 (by omega) (by omega) hr3.2 (Nat.le_refl _)
    rw [List.take_of_length_le (by rw [List.length_drop, addL_len]; omega)] at this
    exact ⟨SX.SubK.rd hr3.1 this, SX.SubK.frs hf3 this⟩
  · have := hSub 0 ls.length c1 (by omega) (by omega) (by have := hr3.2; omega) (Nat.le_refl _)
    rw [List.drop_zero, Nat.sub_zero, show (addL ls node A2 c2 tx).take ls.length = ls by unfold addL; simp] at this
    exact ⟨SX.SubK.rd hr3.1 this, SX.SubK.frs hf3 this⟩
  · have := hSub 0 j c1 (by omega) (by omega) (by have := hr3.2; omega) (Nat.le_refl _)
    rw [List.drop_zero, Nat.sub_zero] at this
    exact ⟨SX.SubK.rd hr3.1 this, SX.SubK.frs hf3 this⟩
def RQB (K : Value → Nat → List Value → Prop) (f : FuncId) (xs : List SX.Arg) (v : Value) : Prop :=
  (f = 12 ∧ ∃ (u1 u2 : Value) (la lb : List Lk), xs = [⟨u1, 35, lkL la⟩, ⟨u2, 35, lkL lb⟩] ∧ LaidK K ∧ la.length ≤ 4611686018427387904 ∧ lb.length ≤ 4611686018427387904 ∧ (∀ z ∈ la, z.kn K ∧ z.fit) ∧ (∀ z ∈ lb, z.kn K ∧ z.fit) ∧ v = .tuple #[.int .i64 (partE la lb).1, .bool (partE la lb).2.1, .int .i64 (partE la lb).2.2]) ∨
  (f = 16 ∧ ∃ (u : Value) (ls : List Lk), xs = [⟨u, 35, lkL ls⟩] ∧ LaidK K ∧ ls.length ≤ 4611686018427387904 ∧ (∀ z ∈ ls, z.kn K ∧ z.fit) ∧ v = .int .i64 (chkE ls)) ∨
  (f = 19 ∧ LaidK K ∧ ∃ (s : ByteArray) (u : Value) (l : List W8), xs = [⟨.string s, 0, []⟩, ⟨u, 1, l.flatMap c8⟩] ∧ s.size < 2 ^ 44 ∧ l.length < 2 ^ 44 ∧ v = dgV (dgF (tagE (sb s) l))) ∨
  (f = 15 ∧ ∃ (u : Value) (ls : List Lk), xs = [⟨u, 35, lkL ls⟩] ∧ LaidK K ∧ ls.length ≤ 4611686018427387904 ∧ (∀ z ∈ ls, z.kn K ∧ z.fit) ∧ v = dgV (headF ls))
def shpQB : FuncId → Option SX.Sh := fun f => if f = 12 then some (.tp [.one, .one, .one]) else if f = 16 then some .one else if f = 19 then some (.ag 32) else if f = 15 then some (.ag 32) else none
noncomputable def cxQB (K A : Value → Nat → List Value → Prop) : SX.Cx := { nsh := nshA, Rn := RnA, bsr := true, bsn := 2, P := Tryd.prog, R := RQB, shp := shpQB, K := K, A := A }
theorem okQB (K A : Value → Nat → List Value → Prop) : (cxQB K A).Ok := by
  refine SX.Cx.ok_nd (fun _ => rfl) ?_ (rnA_ok _ rfl rfl rfl)
  intro K f xs v W hR hrd hKf
  rcases hR with ⟨rfl, u1, u2, la, lb, rfl, hL, hb, hb2, hk, hk2, rfl⟩ | ⟨rfl, u, ls, rfl, hL, hb, hk, rfl⟩ | ⟨rfl, hL, s, u, l, rfl, hs, hl, rfl⟩ | ⟨rfl, u, ls, rfl, hL, hb, hk, rfl⟩
  · obtain ⟨A, n, c, rfl, hr, hc, hln⟩ := lk_arg (hrd ⟨u1, 35, lkL la⟩ (by simp))
    obtain ⟨B, m, d, rfl, hr2, hc2, hlm⟩ := lk_arg (hrd ⟨u2, 35, lkL lb⟩ (by simp))
    exact (part_any la A n c lb B m d W hr hc (by omega) (fun z hz => (hk z hz).1.rd hKf) (fun z hz => (hk z hz).2) hr2 hc2 (by omega) (fun z hz => (hk2 z hz).1.rd hKf) (fun z hz => (hk2 z hz).2) (laid_of hL hKf)).mono fun e w' h => SX.plainOk rfl h
  · obtain ⟨A, n, c, rfl, hr, hc, hln⟩ := lk_arg (hrd ⟨u, 35, lkL ls⟩ (by simp))
    exact (check_any ls A n c W hr hc (by omega) (fun z hz => (hk z hz).1.rd hKf) (fun z hz => (hk z hz).2) (laid_of hL hKf)).mono fun e w' h => SX.plainOk rfl h
  · obtain ⟨A, n, c, rfl, hr, hc, -⟩ := byte_arg (hrd ⟨u, 1, l.flatMap c8⟩ (by simp))
    rw [← dg_val (tagE_len _ _)]
    exact (tagged_any s l (Nat.lt_trans hs (by decide)) hl A n c W hr hc (laid_of hL hKf)).mono fun e w' h => SX.plainOk rfl h
  obtain ⟨A, n, c, rfl, hr, hc, hln⟩ := lk_arg (hrd ⟨u, 35, lkL ls⟩ (by simp))
  exact (head_any ls A n c W hr hc (by omega) (fun z hz => (hk z hz).1.rd hKf) (fun z hz => (hk z hz).2) (laid_of hL hKf)).mono fun e w' h => SX.plainOk rfl h
def xT : ByteArray := ⟨#[120]⟩
def yT : ByteArray := ⟨#[121]⟩
def zT : ByteArray := ⟨#[122]⟩
def ndN (ls : List Lk) (node : Int) (A : Option Addr) (c : Nat) (A2 : Option Addr) (c2 : Nat) (tx : ByteArray) : List SX.Arg := ⟨.slice A (ls.length + 1) c, 35, lkL (addL ls node A2 c2 tx)⟩ :: ⟨.slice A2 tx.size c2, 1, (sb tx).flatMap c8⟩ :: ⟨SX.subS A 35 1 (ls.length + 1) c, 35, lkL ((addL ls node A2 c2 tx).drop 1)⟩ :: ⟨SX.subS A 35 0 ls.length c, 35, lkL ls⟩ :: (List.range (ls.length + 2)).map fun j => (⟨SX.subS A 35 0 j c, 35, lkL ((addL ls node A2 c2 tx).take j)⟩ : SX.Arg)
section
variable (ls : List Lk) (node : Int) (A : Option Addr) (c : Nat) (A2 : Option Addr) (c2 : Nat) (tx : ByteArray)
theorem ndN_a : (⟨.slice A (ls.length + 1) c, 35, lkL (addL ls node A2 c2 tx)⟩ : SX.Arg) ∈ ndN ls node A c A2 c2 tx := List.mem_cons_self ..
theorem ndN_d : (⟨.slice A2 tx.size c2, 1, (sb tx).flatMap c8⟩ : SX.Arg) ∈ ndN ls node A c A2 c2 tx := List.mem_cons_of_mem _ (List.mem_cons_self ..)
theorem ndN_t : (⟨SX.subS A 35 1 (ls.length + 1) c, 35, lkL ((addL ls node A2 c2 tx).drop 1)⟩ : SX.Arg) ∈ ndN ls node A c A2 c2 tx := List.mem_cons_of_mem _ (List.mem_cons_of_mem _ (List.mem_cons_self ..))
end
def KS0 (s : Value) (z : Nat) (xs : List Value) : Prop := (s = .slice (some ⟨0, 0, none⟩) 1 1 ∧ z = 8 ∧ xs = startS.cells) ∨ (s = .slice (some ⟨1, 0, none⟩) 64 64 ∧ z = 1 ∧ xs = numbersK.flatMap c32)
theorem ks0_1 : KS0 (.slice (some ⟨0, 0, none⟩) 1 1) 8 startS.cells := .inl ⟨rfl, rfl, rfl⟩
theorem ks0_2 : KS0 (.slice (some ⟨1, 0, none⟩) 64 64) 1 (numbersK.flatMap c32) := .inr ⟨rfl, rfl, rfl⟩
theorem mk_fit {ls : List Lk} {node : Int} {A : Option Addr} {c : Nat} {tx : ByteArray} (h : -9223372036854775808 ≤ node ∧ node ≤ 9223372036854775807) (hl : ls.length ≤ 4611686018427387904) (ht : tx.size ≤ 1048576) : (mkLk ls node A c tx).fit := ⟨h, ⟨by show -9223372036854775808 ≤ (ls.length : Int); omega, by show (ls.length : Int) ≤ _; omega⟩, ht⟩
theorem drop_all {P : Lk → Prop} {l : List Lk} (h : ∀ z ∈ l, P z) : ∀ z ∈ l.drop 1, P z := fun z hz => h z (List.mem_of_mem_drop hz)
theorem K_in {C : SX.Cx} {N : List SX.Arg} {v : Value} {y : SX.Arg} (hv : v = y.v) (h : y ∈ N) : (C.plus N).K v y.sz y.cells := by subst hv; exact .inr h
theorem b2sx_of {C : SX.Cx} {ρ : List Value} {α : Nat → SX.AV} {s : SX.V} {A : Option Addr} {n c : Nat} {tx : ByteArray} (hs : s.den ρ α = .slice A n c) (hK : C.K (.slice A n c) 1 ((sb tx).flatMap c8)) : SX.Opq.rel C ρ α .b2sx [s] (.string tx) := ⟨tx.data.toList, A, n, c, by rw [sb_l, hs]; exact hK, hs, by simp⟩
theorem chk_nil : chkE [] = 0 := chkE_ok (by decide) fun i z hi => absurd hi (Nat.not_lt_zero _)
theorem add_nil {node : Int} {m : Nat} (h1 : 0 ≤ node) (h2 : node < 24) (h3 : m ≤ 65536) : addE [] node m = 0 := addE_ok chk_nil (not_bad (by omega) (by omega) (fun z0 h => by simp at h) (by omega)) (by decide)
theorem add_next {ls : List Lk} {z0 : Lk} {node : Int} {m : Nat} (h : chkE ls = 0) (hz : ls[0]? = some z0) (hn : node = z0.node) (h1 : 0 ≤ node) (h2 : node < 24) (h3 : m ≤ 65536) (h4 : ls.length ≠ 1024) : addE ls node m = 0 := addE_ok h (not_bad (by omega) (by omega) (fun z h => by rw [hz] at h; cases h; exact hn) (by omega)) h4
theorem partElems {C : SX.Cx} {ρ : List Value} {α : Nat → SX.AV} {s i : SX.V} {A : Option Addr} {n c j o k : Nat} {cells : List Value} (hA : A.isSome = true) (hs : s.den ρ α = .slice A n c) (hi : i.den ρ α = .int .i64 (j : Int)) (hj : j < n) (hK : C.K (.slice A n c) 35 cells) (hl : j * 35 + o + k ≤ cells.length) {v : Value} (hv : v = .agg ((cells.drop (j * 35 + o)).take k).toArray) : SX.Opq.rel C ρ α (.elems 35 o k) [s, i] v := by
  subst hv
  have hb := SX.extBnd (C := C) (fun _ => hA) hs hi hj
  refine ⟨hb.1, cells, by rw [hs]; exact hK, ?_, ?_⟩
  · rw [hi]; exact hl
  rw [hi]; rfl
section
variable (A2 A4 A6 : Option Addr) (c2 c4 c6 : Nat)
theorem chk_a : chkE (addL [] 3 A2 c2 xT) = 0 := chk_add (add_nil (by decide) (by decide) (by decide))
theorem add_b : addE (addL [] 3 A2 c2 xT) 3 yT.size = 0 := add_next (chk_a A2 c2) (z0 := (mkLk [] 3 A2 c2 xT)) rfl rfl (by decide) (by decide) (by decide) (by simp [addL])
theorem add_c : addE (addL [] 3 A2 c2 xT) 3 zT.size = 0 := add_next (chk_a A2 c2) (z0 := (mkLk [] 3 A2 c2 xT)) rfl rfl (by decide) (by decide) (by decide) (by simp [addL])
theorem chk_b : chkE (addL (addL [] 3 A2 c2 xT) 3 A4 c4 yT) = 0 := chk_add (add_b A2 c2)
theorem chk_c : chkE (addL (addL [] 3 A2 c2 xT) 3 A6 c6 zT) = 0 := chk_add (add_c A2 c2)
theorem add_24 : addE [] 24 0 = 1 := addE_arg chk_nil (.inr (.inl (by decide)))
theorem add_4 : addE (addL [] 3 A2 c2 xT) 4 0 = 1 := addE_arg (chk_a A2 c2) (.inr (.inr (.inl ⟨(mkLk [] 3 A2 c2 xT), rfl, by show (4 : Int) ≠ 3; decide⟩)))
theorem slE_refl (z : Lk) : slE z z := ⟨rfl, rfl, rfl, rfl⟩
theorem part_bc : partE (addL (addL [] 3 A2 c2 xT) 3 A4 c4 yT) (addL (addL [] 3 A2 c2 xT) 3 A6 c6 zT) = (1, true, 0) := partE_at (i := 1) (chk_b A2 A4 c2 c4) (chk_c A2 A6 c2 c6) (not_hds fun y z h1 h2 => by
    have h1 : some (mkLk [] 3 A2 c2 xT) = some y := h1
    have h2 : some (mkLk [] 3 A2 c2 xT) = some z := h2
    cases h1; cases h2; rfl) (diffE_at (i := 1) (y := (mkLk (addL [] 3 A2 c2 xT) 3 A4 c4 yT)) (z := (mkLk (addL [] 3 A2 c2 xT) 3 A6 c6 zT)) (fun j y z hj h1 h2 => by
      obtain rfl : j = 0 := by omega
      have h1 : some (mkLk [] 3 A2 c2 xT) = some y := h1
      have h2 : some (mkLk [] 3 A2 c2 xT) = some z := h2
      cases h1; cases h2; exact slE_refl _) rfl rfl fun h => absurd h.2.2.2 (by show ¬ (yT = zT); decide))
theorem part_ab : partE (addL [] 3 A2 c2 xT) (addL (addL [] 3 A2 c2 xT) 3 A4 c4 yT) = (0, false, 0) := partE_no (chk_a A2 c2) (chk_b A2 A4 c2 c4) (not_hds fun y z h1 h2 => by
    have h1 : some (mkLk [] 3 A2 c2 xT) = some y := h1
    have h2 : some (mkLk [] 3 A2 c2 xT) = some z := h2
    cases h1; cases h2; rfl) (diffE_none fun j y z hj h1 h2 => by
      obtain rfl : j = 0 := by simp only [addL_len, List.length_nil] at hj; omega
      have h1 : some (mkLk [] 3 A2 c2 xT) = some y := h1
      have h2 : some (mkLk [] 3 A2 c2 xT) = some z := h2
      cases h1; cases h2; exact slE_refl _)
theorem part_ea : partE [] (addL [] 3 A2 c2 xT) = (0, false, 0) := partE_no chk_nil (chk_a A2 c2) (not_hds fun y z h1 h2 => by simp at h1) rfl
def lk0 : Lk := ⟨0, 1, fun _ => 0, none, 0, 0, ⟨#[]⟩⟩
theorem chk_0 : chkE [lk0] = 80 := chkE_no (by decide) (i := 0) (z := lk0) rfl fun h => absurd h.2.2.2.1 (by decide)
theorem chk_t : chkE ((addL (addL [] 3 A2 c2 xT) 3 A4 c4 yT).drop 1) = 80 := chkE_no (by simp [addL]) (i := 0) (z := (mkLk (addL [] 3 A2 c2 xT) 3 A4 c4 yT)) rfl fun h => absurd h.2.2.2.1 (by show ¬ ((1 : Int) = 0); decide)
theorem enc_x : encL (flLk (mkLk [] 3 A2 c2 xT)) = [3#8, 4, 1, 6, 1, 0, 2, 32] ++ dgL (headF []) ++ [2, 1, 120] := by
  have h3 : numB 6 = [6#8] := by rw [numB_lt (by decide)]
  have h0 : numB 0 = [0#8] := by rw [numB_lt (by decide)]
  have h4 : numB 4 = [4#8] := by rw [numB_lt (by decide)]
  have h1 : numB 1 = [1#8] := by rw [numB_lt (by decide)]
  have h32 : numB 32 = [32#8] := by rw [numB_lt (by decide)]
  have u3 : unsN 3 = 6 := by decide
  have u0 : unsN 0 = 0 := by decide
  have e : flLk (mkLk [] 3 A2 c2 xT) = [.n 3, .n 0, .s (bt (dgL (headF []))), .s xT] := rfl
  have sx : sb xT = [120#8] := by decide
  have zx : xT.size = 1 := by decide
  rw [e]
  simp only [encL, encF, List.length_cons, List.length_nil, List.flatMap_cons, List.flatMap_nil, u3, u0, h3, h0, h4, bt_size, dgL_len, h32, sb_bt, sx, zx, h1, Nat.zero_add, Nat.reduceAdd, List.append_nil, List.cons_append, List.nil_append, List.append_assoc]
  rfl
end
def tree_sane : SX.Tree :=
(.df (.callq 10 [(.own 35 []), .no, (.row 1 [(.a [(.k (.int .u8 120))])])]) [(.k (.slice none 0 0)), (.i 3), (.row 1)] (.tp [.one, .one])
(.df (.callq 10 [(.ext 35), .no, (.row 1 [(.a [(.k (.int .u8 121))])])]) [(.x 0 [0]), (.i 3), (.row 3)] (.tp [.one, .one])
(.df (.callq 10 [(.ext 35), .no, (.row 1 [(.a [(.k (.int .u8 122))])])]) [(.x 0 [0]), (.i 3), (.row 5)] (.tp [.one, .one])
(.df (.callq 10 [(.own 35 []), .no, (.own 1 [])]) [(.k (.slice none 0 0)), (.i 24), (.k (.slice none 0 0))] (.tp [.one, .one])
(.df (.callq 10 [(.ext 35), .no, (.own 1 [])]) [(.x 0 [0]), (.i 4), (.k (.slice none 0 0))] (.tp [.one, .one])
(.df (.call 12 [(.ext 35), (.ext 35)]) [(.x 1 [0]), (.x 2 [0])] (.tp [.one, .one, .one])
(.df (.call 12 [(.ext 35), (.ext 35)]) [(.x 0 [0]), (.x 1 [0])] (.tp [.one, .one, .one])
(.df (.call 12 [(.own 35 []), (.ext 35)]) [(.k (.slice none 0 0)), (.x 0 [0])] (.tp [.one, .one, .one])
(.df (.bin .neq 26) [(.x 0 [1]), (.i 0)] .one
(.br 8 []
(.ret (.k (.bool false)) (List.replicate 6 none) [])
(.df (.bin .neq 26) [(.x 1 [1]), (.i 0)] .one
(.br 9 []
(.ret (.k (.bool false)) (List.replicate 6 none) [])
(.df (.bin .neq 26) [(.x 2 [1]), (.i 0)] .one
(.br 10 []
(.ret (.k (.bool false)) (List.replicate 6 none) [])
(.df (.bin .neq 26) [(.x 3 [1]), (.i 1)] .one
(.br 11 []
(.ret (.k (.bool false)) (List.replicate 6 none) [])
(.df (.bin .neq 26) [(.x 4 [1]), (.i 1)] .one
(.br 12 []
(.ret (.k (.bool false)) (List.replicate 6 none) [])
(.df (.bin .neq 26) [(.x 5 [2]), (.i 0)] .one
(.br 13 []
(.ret (.k (.bool false)) (List.replicate 6 none) [])
(.df (.bin .neq 26) [(.x 6 [2]), (.i 0)] .one
(.br 14 []
(.ret (.k (.bool false)) (List.replicate 6 none) [])
(.df (.bin .neq 26) [(.x 7 [2]), (.i 0)] .one
(.br 15 []
(.ret (.k (.bool false)) (List.replicate 6 none) [])
(.df (.len false) [(.x 0 [0])] .one
(.df (.bin .neq 3) [(.q 16), (.i 1)] .one
(.br 17 []
(.ret (.k (.bool false)) (List.replicate 6 none) [])
(.df (.len false) [(.x 1 [0])] .one
(.df (.bin .neq 3) [(.q 18), (.i 2)] .one
(.br 19 []
(.ret (.k (.bool false)) (List.replicate 6 none) [])
(.df (.len false) [(.x 2 [0])] .one
(.df (.bin .neq 3) [(.q 20), (.i 2)] .one
(.br 21 []
(.ret (.k (.bool false)) (List.replicate 6 none) [])
(.df (.bin .neq 3) [(.x 5 [0]), (.i 1)] .one
(.br 22 []
(.ret (.k (.bool false)) (List.replicate 6 none) [])
(.df .not [(.x 5 [1])] .one
(.br 23 []
(.ret (.k (.bool false)) (List.replicate 6 none) [])
(.br 6 [1]
(.ret (.k (.bool false)) (List.replicate 6 none) [])
(.br 7 [1]
(.ret (.k (.bool false)) (List.replicate 6 none) [])
(.df (.call 16 [(.own 35 [])]) [(.k (.slice none 0 0))] .one
(.df (.bin .neq 26) [(.q 24), (.i 0)] .one
(.br 25 []
(.ret (.k (.bool false)) (List.replicate 6 none) [])
(.df (.call 16 [(.ext 35)]) [(.x 1 [0])] .one
(.df (.bin .neq 26) [(.q 26), (.i 0)] .one
(.br 27 []
(.ret (.k (.bool false)) (List.replicate 6 none) [])
(.df (.call 16 [(.own 35 [(.i 0), (.i 1), (.k (.int .u8 0)), (.k (.int .u8 0)), (.k (.int .u8 0)), (.k (.int .u8 0)), (.k (.int .u8 0)), (.k (.int .u8 0)), (.k (.int .u8 0)), (.k (.int .u8 0)), (.k (.int .u8 0)), (.k (.int .u8 0)), (.k (.int .u8 0)), (.k (.int .u8 0)), (.k (.int .u8 0)), (.k (.int .u8 0)), (.k (.int .u8 0)), (.k (.int .u8 0)), (.k (.int .u8 0)), (.k (.int .u8 0)), (.k (.int .u8 0)), (.k (.int .u8 0)), (.k (.int .u8 0)), (.k (.int .u8 0)), (.k (.int .u8 0)), (.k (.int .u8 0)), (.k (.int .u8 0)), (.k (.int .u8 0)), (.k (.int .u8 0)), (.k (.int .u8 0)), (.k (.int .u8 0)), (.k (.int .u8 0)), (.k (.int .u8 0)), (.k (.int .u8 0)), (.k (.slice none 0 0))])]) [(.sl 6 0 1 1)] .one
(.df (.bin .neq 26) [(.q 28), (.i 80)] .one
(.br 29 []
(.ret (.k (.bool false)) (List.replicate 7 none) [])
(.df (.slc false 35 true false false) [(.x 1 [0]), (.i 1)] .one
(.df (.call 16 [(.ext 35)]) [(.q 30)] .one
(.df (.bin .neq 26) [(.q 31), (.i 80)] .one
(.br 32 []
(.ret (.k (.bool false)) (List.replicate 7 none) [])
(.df (.call 19 [.no, (.own 1 [])]) [(.k (.string ⟨#[110, 111, 110, 101]⟩)), (.k (.slice none 0 0))] (.ag 32)
(.df (.app 1 1 (.own 1 (SX.Y 33 0 32))) [(.cat [(.a [(.k (.int .u8 3)), (.k (.int .u8 4)), (.k (.int .u8 1)), (.k (.int .u8 6)), (.k (.int .u8 1)), (.k (.int .u8 0)), (.k (.int .u8 2)), (.k (.int .u8 32))])]), (.sl 7 0 32 32)] .any
(.df (.app 1 1 (.row 1 [(.a [(.k (.int .u8 2)), (.k (.int .u8 1)), (.k (.int .u8 120))])])) [(.cat [(.a [(.k (.int .u8 3)), (.k (.int .u8 4)), (.k (.int .u8 1)), (.k (.int .u8 6)), (.k (.int .u8 1)), (.k (.int .u8 0)), (.k (.int .u8 2)), (.k (.int .u8 32))]), (.q 34)]), (.row 10)] .any
(.df .bnd [(.x 0 [0]), (.i 0)] .one
(.df .bnd [(.x 0 [0]), (.i 0)] .one
(.df (.elems 35 2 32) [(.x 0 [0]), (.i 0)] (.ag 32)
(.df (.eqr false 32 [(.i .u8), (.i .u8), (.i .u8), (.i .u8), (.i .u8), (.i .u8), (.i .u8), (.i .u8), (.i .u8), (.i .u8), (.i .u8), (.i .u8), (.i .u8), (.i .u8), (.i .u8), (.i .u8), (.i .u8), (.i .u8), (.i .u8), (.i .u8), (.i .u8), (.i .u8), (.i .u8), (.i .u8), (.i .u8), (.i .u8), (.i .u8), (.i .u8), (.i .u8), (.i .u8), (.i .u8), (.i .u8)]) (SX.Y 38 0 32 ++ SX.Y 33 0 32) .one
(.br 39 []
(.df (.call 15 [(.own 35 [])]) [(.k (.slice none 0 0))] (.ag 32)
(.df (.eqr false 32 [(.i .u8), (.i .u8), (.i .u8), (.i .u8), (.i .u8), (.i .u8), (.i .u8), (.i .u8), (.i .u8), (.i .u8), (.i .u8), (.i .u8), (.i .u8), (.i .u8), (.i .u8), (.i .u8), (.i .u8), (.i .u8), (.i .u8), (.i .u8), (.i .u8), (.i .u8), (.i .u8), (.i .u8), (.i .u8), (.i .u8), (.i .u8), (.i .u8), (.i .u8), (.i .u8), (.i .u8), (.i .u8)]) (SX.Y 40 0 32 ++ SX.Y 33 0 32) .one
(.br 41 []
(.df (.call 15 [(.ext 35)]) [(.x 0 [0])] (.ag 32)
(.df (.call 19 [.no, (.row 1 [(.a [(.k (.int .u8 3)), (.k (.int .u8 4)), (.k (.int .u8 1)), (.k (.int .u8 6)), (.k (.int .u8 1)), (.k (.int .u8 0)), (.k (.int .u8 2)), (.k (.int .u8 32))]), (.q 34), (.q 35)])]) [(.k (.string ⟨#[108, 105, 110, 107]⟩)), (.row 11)] (.ag 32)
(.df (.eqr false 32 [(.i .u8), (.i .u8), (.i .u8), (.i .u8), (.i .u8), (.i .u8), (.i .u8), (.i .u8), (.i .u8), (.i .u8), (.i .u8), (.i .u8), (.i .u8), (.i .u8), (.i .u8), (.i .u8), (.i .u8), (.i .u8), (.i .u8), (.i .u8), (.i .u8), (.i .u8), (.i .u8), (.i .u8), (.i .u8), (.i .u8), (.i .u8), (.i .u8), (.i .u8), (.i .u8), (.i .u8), (.i .u8)]) (SX.Y 42 0 32 ++ SX.Y 43 0 32) .one
(.br 44 []
(.df .bnd [(.x 1 [0]), (.i 1)] .one
(.df .bnd [(.x 1 [0]), (.i 1)] .one
(.df (.elems 35 2 32) [(.x 1 [0]), (.i 1)] (.ag 32)
(.df (.call 15 [(.ext 35)]) [(.x 0 [0])] (.ag 32)
(.df (.eqr false 32 [(.i .u8), (.i .u8), (.i .u8), (.i .u8), (.i .u8), (.i .u8), (.i .u8), (.i .u8), (.i .u8), (.i .u8), (.i .u8), (.i .u8), (.i .u8), (.i .u8), (.i .u8), (.i .u8), (.i .u8), (.i .u8), (.i .u8), (.i .u8), (.i .u8), (.i .u8), (.i .u8), (.i .u8), (.i .u8), (.i .u8), (.i .u8), (.i .u8), (.i .u8), (.i .u8), (.i .u8), (.i .u8)]) (SX.Y 47 0 32 ++ SX.Y 48 0 32) .one
(.br 49 []
(.df .bnd [(.x 1 [0]), (.i 1)] .one
(.df .bnd [(.x 1 [0]), (.i 1)] .one
(.df (.elem 35 1) [(.x 1 [0]), (.i 1)] .one
(.df (.bin .eql 3) [(.q 52), (.i 1)] .one
(.br 53 []
(.df .bnd [(.x 1 [0]), (.i 1)] .one
(.df .bnd [(.x 1 [0]), (.i 1)] .one
(.df (.elem 35 34) [(.x 1 [0]), (.i 1)] .one
(.df .b2sx [(.q 56)] .one
(.df (.bin .eql 9) [(.q 57), (.k (.string ⟨#[121]⟩))] .one
(.ret (.q 58) (List.replicate 55 none) []))))))
(.ret (.k (.bool false)) (List.replicate 55 none) []))))))
(.ret (.k (.bool false)) (List.replicate 55 none) [])))))))
(.ret (.k (.bool false)) (List.replicate 55 none) [])))))
(.ret (.k (.bool false)) (List.replicate 55 none) []))))
(.ret (.k (.bool false)) (List.replicate 55 none) [])))))))))))))))))))))))))))))))))))))))))))))))))))))))))))))
def args_sane : List SX.V := []
set_option maxRecDepth 100000 in
theorem run_sane (K A : Value → Nat → List Value → Prop) : (SX.run (cxQB K A) ⟨fun f => true, [], 12, 100⟩ 100000 0 (SX.door 8 Tryd.f8 args_sane []) [.code (Tryd.f8.body.getD .skip), .top Tryd.f8]).strip = tree_sane := by kernel_rfl
set_option maxRecDepth 100000 in
set_option maxHeartbeats 4000000 in
theorem sane_any  (w : World) (hlaid : Laid w) : Calls Tryd.prog 8 #[] w fun e w' => e = .returned (.bool true) ∧ Below w.heap.size w w' := by
  refine SX.calls_of_run (C := cxQB KS0 (fun _ _ _ => False)) (G := ⟨fun f => true, [], 12, 100⟩) (args := args_sane) (sh := []) (ρ := []) 100000 tree_sane (okQB _ _) Tryd.func8 rfl (run_sane _ _) (by kernel_rfl) (by kernel_rfl) (by kernel_rfl) ?_ ?_
  · rintro W hW s sz cells (⟨rfl, rfl, rfl⟩ | ⟨rfl, rfl, rfl⟩)
    · exact ⟨hlaid.1.same0 hW, Nat.le_refl _⟩
    exact ⟨hlaid.2.same0 hW, Nat.le_refl _⟩
  unfold tree_sane
  refine SX.VC_dn (fun v N => ∃ A1 c1 A2 c2, A1.isSome = true ∧ 1 ≤ c1 ∧ v = .tuple #[.slice A1 1 c1, .int .i64 0] ∧ N = (ndN ([] : List Lk) 3 A1 c1 A2 c2 xT)) (fun _ => rfl) (fun α => ⟨[⟨.slice none 0 0, 35, lkL []⟩, ⟨.int .i64 3, 0, []⟩, ⟨(α 1).h, 1, (sb xT).flatMap c8⟩], ⟨by kernel_rfl, by kernel_rfl, by kernel_rfl, by kernel_rfl, trivial⟩, rfl, _, ([] : List Lk), 3, _, xT, rfl, ⟨(ks0_1), (ks0_2)⟩, (by simp [addL]), (fun z h => nomatch h), by decide, by decide, fun h => absurd (add_nil (by decide) (by decide) (by decide)) h, fun _ A c A' c' g1 g2 g3 => ⟨A, c, A', c', g1, g2, rfl, rfl⟩⟩) ?_
  rintro _ _ - ⟨A1, c1, A2, c2, g1, gg1, rfl, rfl⟩
  refine SX.VC_dn (fun v N => ∃ A3 c3 A4 c4, A3.isSome = true ∧ 2 ≤ c3 ∧ v = .tuple #[.slice A3 2 c3, .int .i64 0] ∧ N = (ndN (addL [] 3 A2 c2 xT) 3 A3 c3 A4 c4 yT)) (fun _ => rfl) (fun α => ⟨[⟨.slice A1 1 c1, 35, lkL (addL [] 3 A2 c2 xT)⟩, ⟨.int .i64 3, 0, []⟩, ⟨(α 3).h, 1, (sb yT).flatMap c8⟩], ⟨by kernel_rfl, by kernel_rfl, K_in (y := ⟨.slice A1 1 c1, 35, lkL (addL [] 3 A2 c2 xT)⟩) (by kernel_rfl) (List.mem_append_left _ (ndN_a ..)), by kernel_rfl, by kernel_rfl, by kernel_rfl, trivial⟩, rfl, _, (addL [] 3 A2 c2 xT), 3, _, yT, rfl, ⟨(.inl (ks0_1)), (.inl (ks0_2))⟩, (by simp [addL]), (addL_all (fun z h => nomatch h) ⟨.inl (.inr (List.mem_append_left _ (ndN_d ..))), mk_fit (by decide) (by simp [addL]) (by decide)⟩), by decide, by decide, fun h => absurd (add_b ..) h, fun _ A c A' c' g1 g2 g3 => ⟨A, c, A', c', g1, g2, rfl, rfl⟩⟩) ?_
  rintro _ _ - ⟨A3, c3, A4, c4, g3, gg3, rfl, rfl⟩
  refine SX.VC_dn (fun v N => ∃ A5 c5 A6 c6, A5.isSome = true ∧ 2 ≤ c5 ∧ v = .tuple #[.slice A5 2 c5, .int .i64 0] ∧ N = (ndN (addL [] 3 A2 c2 xT) 3 A5 c5 A6 c6 zT)) (fun _ => rfl) (fun α => ⟨[⟨.slice A1 1 c1, 35, lkL (addL [] 3 A2 c2 xT)⟩, ⟨.int .i64 3, 0, []⟩, ⟨(α 5).h, 1, (sb zT).flatMap c8⟩], ⟨by kernel_rfl, by kernel_rfl, K_in (y := ⟨.slice A1 1 c1, 35, lkL (addL [] 3 A2 c2 xT)⟩) (by kernel_rfl) (List.mem_append_right _ (List.mem_append_left _ (ndN_a ..))), by kernel_rfl, by kernel_rfl, by kernel_rfl, trivial⟩, rfl, _, (addL [] 3 A2 c2 xT), 3, _, zT, rfl, ⟨(.inl (.inl (ks0_1))), (.inl (.inl (ks0_2)))⟩, (by simp [addL]), (addL_all (fun z h => nomatch h) ⟨.inl (.inr (List.mem_append_right _ (List.mem_append_left _ (ndN_d ..)))), mk_fit (by decide) (by simp [addL]) (by decide)⟩), by decide, by decide, fun h => absurd (add_c ..) h, fun _ A c A' c' g1 g2 g3 => ⟨A, c, A', c', g1, g2, rfl, rfl⟩⟩) ?_
  rintro _ _ - ⟨A5, c5, A6, c6, g5, gg5, rfl, rfl⟩
  refine SX.VC_dn (fun v N => v = .tuple #[.slice none 0 0, .int .i64 1] ∧ N = []) (fun _ => rfl) (fun α => ⟨[⟨.slice none 0 0, 35, lkL []⟩, ⟨.int .i64 24, 0, []⟩, ⟨.slice none 0 0, 1, (sb ⟨#[]⟩).flatMap c8⟩], ⟨by kernel_rfl, by kernel_rfl, by kernel_rfl, by kernel_rfl, trivial⟩, rfl, _, ([] : List Lk), 24, _, ⟨#[]⟩, rfl, ⟨(.inl (.inl (.inl (ks0_1)))), (.inl (.inl (.inl (ks0_2))))⟩, (by simp [addL]), (fun z h => nomatch h), by decide, by decide, fun _ => ⟨by rw [show addE ([] : List Lk) 24 (ByteArray.size ⟨#[]⟩) = 1 from add_24], rfl⟩, fun h => absurd (h.symm.trans add_24) (by decide)⟩) ?_
  rintro _ _ - ⟨rfl, rfl⟩
  refine SX.VC_dn (fun v N => v = .tuple #[.slice none 0 0, .int .i64 1] ∧ N = []) (fun _ => rfl) (fun α => ⟨[⟨.slice A1 1 c1, 35, lkL (addL [] 3 A2 c2 xT)⟩, ⟨.int .i64 4, 0, []⟩, ⟨.slice none 0 0, 1, (sb ⟨#[]⟩).flatMap c8⟩], ⟨by kernel_rfl, by kernel_rfl, K_in (y := ⟨.slice A1 1 c1, 35, lkL (addL [] 3 A2 c2 xT)⟩) (by kernel_rfl) (List.mem_append_right _ (List.mem_append_right _ (List.mem_append_right _ (List.mem_append_left _ (ndN_a ..))))), by kernel_rfl, by kernel_rfl, by kernel_rfl, trivial⟩, rfl, _, (addL [] 3 A2 c2 xT), 4, _, ⟨#[]⟩, rfl, ⟨(.inl (.inl (.inl (.inl (ks0_1))))), (.inl (.inl (.inl (.inl (ks0_2)))))⟩, (by simp [addL]), (addL_all (fun z h => nomatch h) ⟨.inl (.inr (List.mem_append_right _ (List.mem_append_right _ (List.mem_append_right _ (List.mem_append_left _ (ndN_d ..)))))), mk_fit (by decide) (by simp [addL]) (by decide)⟩), by decide, by decide, fun _ => ⟨by rw [show addE (addL [] 3 A2 c2 xT) 4 (ByteArray.size ⟨#[]⟩) = 1 from (add_4 A2 c2)], rfl⟩, fun h => absurd (h.symm.trans (add_4 A2 c2)) (by decide)⟩) ?_
  rintro _ _ - ⟨rfl, rfl⟩
  refine SX.E (.tuple #[.int .i64 1, .bool true, .int .i64 0]) (fun α => ⟨[⟨.slice A3 2 c3, 35, lkL (addL (addL [] 3 A2 c2 xT) 3 A4 c4 yT)⟩, ⟨.slice A5 2 c5, 35, lkL (addL (addL [] 3 A2 c2 xT) 3 A6 c6 zT)⟩], ⟨by kernel_rfl, by kernel_rfl, K_in (y := ⟨.slice A3 2 c3, 35, lkL (addL (addL [] 3 A2 c2 xT) 3 A4 c4 yT)⟩) (by kernel_rfl) (List.mem_append_right _ (List.mem_append_right _ (List.mem_append_right _ (List.mem_append_left _ (ndN_a ..))))), by kernel_rfl, by kernel_rfl, K_in (y := ⟨.slice A5 2 c5, 35, lkL (addL (addL [] 3 A2 c2 xT) 3 A6 c6 zT)⟩) (by kernel_rfl) (List.mem_append_right _ (List.mem_append_right _ (List.mem_append_left _ (ndN_a ..)))), trivial⟩, .inl ⟨rfl, _, _, (addL (addL [] 3 A2 c2 xT) 3 A4 c4 yT), (addL (addL [] 3 A2 c2 xT) 3 A6 c6 zT), rfl, ⟨(.inl (.inl (.inl (.inl (.inl (ks0_1)))))), (.inl (.inl (.inl (.inl (.inl (ks0_2))))))⟩, (by simp [addL]), (by simp [addL]), (addL_all (addL_all (fun z h => nomatch h) ⟨.inl (.inr (List.mem_append_right _ (List.mem_append_right _ (List.mem_append_right _ (List.mem_append_right _ (List.mem_append_left _ (ndN_d ..))))))), mk_fit (by decide) (by simp [addL]) (by decide)⟩) ⟨.inl (.inr (List.mem_append_right _ (List.mem_append_right _ (List.mem_append_right _ (List.mem_append_left _ (ndN_d ..)))))), mk_fit (by decide) (by simp [addL]) (by decide)⟩), (addL_all (addL_all (fun z h => nomatch h) ⟨.inl (.inr (List.mem_append_right _ (List.mem_append_right _ (List.mem_append_right _ (List.mem_append_right _ (List.mem_append_left _ (ndN_d ..))))))), mk_fit (by decide) (by simp [addL]) (by decide)⟩) ⟨.inl (.inr (List.mem_append_right _ (List.mem_append_right _ (List.mem_append_left _ (ndN_d ..))))), mk_fit (by decide) (by simp [addL]) (by decide)⟩), by rw [(part_bc A2 A4 A6 c2 c4 c6)]⟩, SX.noAli rfl⟩) ?_
  refine SX.E (.tuple #[.int .i64 0, .bool false, .int .i64 0]) (fun α => ⟨[⟨.slice A1 1 c1, 35, lkL (addL [] 3 A2 c2 xT)⟩, ⟨.slice A3 2 c3, 35, lkL (addL (addL [] 3 A2 c2 xT) 3 A4 c4 yT)⟩], ⟨by kernel_rfl, by kernel_rfl, K_in (y := ⟨.slice A1 1 c1, 35, lkL (addL [] 3 A2 c2 xT)⟩) (by kernel_rfl) (List.mem_append_right _ (List.mem_append_right _ (List.mem_append_right _ (List.mem_append_right _ (List.mem_append_left _ (ndN_a ..)))))), by kernel_rfl, by kernel_rfl, K_in (y := ⟨.slice A3 2 c3, 35, lkL (addL (addL [] 3 A2 c2 xT) 3 A4 c4 yT)⟩) (by kernel_rfl) (List.mem_append_right _ (List.mem_append_right _ (List.mem_append_right _ (List.mem_append_left _ (ndN_a ..))))), trivial⟩, .inl ⟨rfl, _, _, (addL [] 3 A2 c2 xT), (addL (addL [] 3 A2 c2 xT) 3 A4 c4 yT), rfl, ⟨(.inl (.inl (.inl (.inl (.inl (ks0_1)))))), (.inl (.inl (.inl (.inl (.inl (ks0_2))))))⟩, (by simp [addL]), (by simp [addL]), (addL_all (fun z h => nomatch h) ⟨.inl (.inr (List.mem_append_right _ (List.mem_append_right _ (List.mem_append_right _ (List.mem_append_right _ (List.mem_append_left _ (ndN_d ..))))))), mk_fit (by decide) (by simp [addL]) (by decide)⟩), (addL_all (addL_all (fun z h => nomatch h) ⟨.inl (.inr (List.mem_append_right _ (List.mem_append_right _ (List.mem_append_right _ (List.mem_append_right _ (List.mem_append_left _ (ndN_d ..))))))), mk_fit (by decide) (by simp [addL]) (by decide)⟩) ⟨.inl (.inr (List.mem_append_right _ (List.mem_append_right _ (List.mem_append_right _ (List.mem_append_left _ (ndN_d ..)))))), mk_fit (by decide) (by simp [addL]) (by decide)⟩), by rw [(part_ab A2 A4 c2 c4)]⟩, SX.noAli rfl⟩) ?_
  refine SX.E (.tuple #[.int .i64 0, .bool false, .int .i64 0]) (fun α => ⟨[⟨.slice none 0 0, 35, lkL []⟩, ⟨.slice A1 1 c1, 35, lkL (addL [] 3 A2 c2 xT)⟩], ⟨by kernel_rfl, by kernel_rfl, by kernel_rfl, K_in (y := ⟨.slice A1 1 c1, 35, lkL (addL [] 3 A2 c2 xT)⟩) (by kernel_rfl) (List.mem_append_right _ (List.mem_append_right _ (List.mem_append_right _ (List.mem_append_right _ (List.mem_append_left _ (ndN_a ..)))))), trivial⟩, .inl ⟨rfl, _, _, ([] : List Lk), (addL [] 3 A2 c2 xT), rfl, ⟨(.inl (.inl (.inl (.inl (.inl (ks0_1)))))), (.inl (.inl (.inl (.inl (.inl (ks0_2))))))⟩, (by simp [addL]), (by simp [addL]), (fun z h => nomatch h), (addL_all (fun z h => nomatch h) ⟨.inl (.inr (List.mem_append_right _ (List.mem_append_right _ (List.mem_append_right _ (List.mem_append_right _ (List.mem_append_left _ (ndN_d ..))))))), mk_fit (by decide) (by simp [addL]) (by decide)⟩), by rw [(part_ea A2 c2)]⟩, SX.noAli rfl⟩) ?_
  refine SX.D (.bool ((0 : Int) != 0)) ?_
  refine SX.B ((0 : Int) != 0) (fun h8 => absurd h8 (by decide)) (fun h8 => ?_)
  try simp only [NRM] at h8
  refine SX.D (.bool ((0 : Int) != 0)) ?_
  refine SX.B ((0 : Int) != 0) (fun h9 => absurd h9 (by decide)) (fun h9 => ?_)
  try simp only [NRM] at h9
  refine SX.D (.bool ((0 : Int) != 0)) ?_
  refine SX.B ((0 : Int) != 0) (fun h10 => absurd h10 (by decide)) (fun h10 => ?_)
  try simp only [NRM] at h10
  refine SX.D (.bool ((1 : Int) != 1)) ?_
  refine SX.B ((1 : Int) != 1) (fun h11 => absurd h11 (by decide)) (fun h11 => ?_)
  try simp only [NRM] at h11
  refine SX.D (.bool ((1 : Int) != 1)) ?_
  refine SX.B ((1 : Int) != 1) (fun h12 => absurd h12 (by decide)) (fun h12 => ?_)
  try simp only [NRM] at h12
  refine SX.D (.bool ((0 : Int) != 0)) ?_
  refine SX.B ((0 : Int) != 0) (fun h13 => absurd h13 (by decide)) (fun h13 => ?_)
  try simp only [NRM] at h13
  refine SX.D (.bool ((0 : Int) != 0)) ?_
  refine SX.B ((0 : Int) != 0) (fun h14 => absurd h14 (by decide)) (fun h14 => ?_)
  try simp only [NRM] at h14
  refine SX.D (.bool ((0 : Int) != 0)) ?_
  refine SX.B ((0 : Int) != 0) (fun h15 => absurd h15 (by decide)) (fun h15 => ?_)
  try simp only [NRM] at h15
  refine SX.D (.int .i64 (((1 : Nat) : Int))) ?_
  refine SX.D (.bool ((((1 : Nat) : Int) : Int) != 1)) ?_
  refine SX.B ((((1 : Nat) : Int) : Int) != 1) (fun h17 => absurd h17 (by decide)) (fun h17 => ?_)
  try simp only [NRM] at h17
  refine SX.D (.int .i64 (((2 : Nat) : Int))) ?_
  refine SX.D (.bool ((((2 : Nat) : Int) : Int) != 2)) ?_
  refine SX.B ((((2 : Nat) : Int) : Int) != 2) (fun h19 => absurd h19 (by decide)) (fun h19 => ?_)
  try simp only [NRM] at h19
  refine SX.D (.int .i64 (((2 : Nat) : Int))) ?_
  refine SX.D (.bool ((((2 : Nat) : Int) : Int) != 2)) ?_
  refine SX.B ((((2 : Nat) : Int) : Int) != 2) (fun h21 => absurd h21 (by decide)) (fun h21 => ?_)
  try simp only [NRM] at h21
  refine SX.D (.bool ((1 : Int) != 1)) ?_
  refine SX.B ((1 : Int) != 1) (fun h22 => absurd h22 (by decide)) (fun h22 => ?_)
  try simp only [NRM] at h22
  refine SX.D (.bool (!(true))) ?_
  refine SX.B (!(true)) (fun h23 => absurd h23 (by decide)) (fun h23 => ?_)
  try simp only [NRM] at h23
  refine SX.B false (fun h6_1 => absurd h6_1 (by decide)) (fun h6_1 => ?_)
  try simp only [NRM] at h6_1
  refine SX.B false (fun h7_1 => absurd h7_1 (by decide)) (fun h7_1 => ?_)
  try simp only [NRM] at h7_1
  refine SX.E (.int .i64 0) (fun α => ⟨[⟨.slice none 0 0, 35, lkL []⟩], ⟨by kernel_rfl, trivial⟩, .inr (.inl ⟨rfl, _, ([] : List Lk), rfl, ⟨(.inl (.inl (.inl (.inl (.inl (ks0_1)))))), (.inl (.inl (.inl (.inl (.inl (ks0_2))))))⟩, (by simp [addL]), (fun z h => nomatch h), by rw [chk_nil]⟩), SX.noAli rfl⟩) ?_
  refine SX.D (.bool ((0 : Int) != 0)) ?_
  refine SX.B ((0 : Int) != 0) (fun h25 => absurd h25 (by decide)) (fun h25 => ?_)
  try simp only [NRM] at h25
  refine SX.E (.int .i64 0) (fun α => ⟨[⟨.slice A3 2 c3, 35, lkL (addL (addL [] 3 A2 c2 xT) 3 A4 c4 yT)⟩], ⟨by kernel_rfl, by kernel_rfl, K_in (y := ⟨.slice A3 2 c3, 35, lkL (addL (addL [] 3 A2 c2 xT) 3 A4 c4 yT)⟩) (by kernel_rfl) (List.mem_append_right _ (List.mem_append_right _ (List.mem_append_right _ (List.mem_append_left _ (ndN_a ..))))), trivial⟩, .inr (.inl ⟨rfl, _, (addL (addL [] 3 A2 c2 xT) 3 A4 c4 yT), rfl, ⟨(.inl (.inl (.inl (.inl (.inl (ks0_1)))))), (.inl (.inl (.inl (.inl (.inl (ks0_2))))))⟩, (by simp [addL]), (addL_all (addL_all (fun z h => nomatch h) ⟨.inl (.inr (List.mem_append_right _ (List.mem_append_right _ (List.mem_append_right _ (List.mem_append_right _ (List.mem_append_left _ (ndN_d ..))))))), mk_fit (by decide) (by simp [addL]) (by decide)⟩) ⟨.inl (.inr (List.mem_append_right _ (List.mem_append_right _ (List.mem_append_right _ (List.mem_append_left _ (ndN_d ..)))))), mk_fit (by decide) (by simp [addL]) (by decide)⟩), by rw [(chk_b A2 A4 c2 c4)]⟩), SX.noAli rfl⟩) ?_
  refine SX.D (.bool ((0 : Int) != 0)) ?_
  refine SX.B ((0 : Int) != 0) (fun h27 => absurd h27 (by decide)) (fun h27 => ?_)
  try simp only [NRM] at h27
  refine SX.E (.int .i64 80) (fun α => ⟨[⟨.slice (some ⟨(α 6).b, 0, none⟩) 1 1, 35, lkL [lk0]⟩], ⟨by kernel_rfl, trivial⟩, .inr (.inl ⟨rfl, _, [lk0], rfl, ⟨(.inl (.inl (.inl (.inl (.inl (ks0_1)))))), (.inl (.inl (.inl (.inl (.inl (ks0_2))))))⟩, by decide, fun z hz => by obtain rfl := List.mem_singleton.1 hz; exact ⟨.inr ⟨rfl, rfl⟩, ⟨by decide, by decide⟩, ⟨by decide, by decide⟩, by decide⟩, by rw [chk_0]⟩), SX.noAli rfl⟩) ?_
  refine SX.D (.bool ((80 : Int) != 80)) ?_
  refine SX.B ((80 : Int) != 80) (fun h29 => absurd h29 (by decide)) (fun h29 => ?_)
  try simp only [NRM] at h29
  refine SX.E ((SX.subS A3 35 1 2 c3)) (fun α => SX.slc_lo (A := A3) (n := 2) (c := c3) (k := 1) (by kernel_rfl) (by kernel_rfl) (by omega)) ?_
  refine SX.E (.int .i64 80) (fun α => ⟨[⟨SX.subS A3 35 1 2 c3, 35, lkL ((addL (addL [] 3 A2 c2 xT) 3 A4 c4 yT).drop 1)⟩], ⟨by kernel_rfl, by kernel_rfl, K_in (y := ⟨SX.subS A3 35 1 2 c3, 35, lkL ((addL (addL [] 3 A2 c2 xT) 3 A4 c4 yT).drop 1)⟩) (by kernel_rfl) (List.mem_append_right _ (List.mem_append_right _ (List.mem_append_right _ (List.mem_append_left _ (ndN_t ..))))), trivial⟩, .inr (.inl ⟨rfl, _, (addL (addL [] 3 A2 c2 xT) 3 A4 c4 yT).drop 1, rfl, ⟨(.inl (.inl (.inl (.inl (.inl (ks0_1)))))), (.inl (.inl (.inl (.inl (.inl (ks0_2))))))⟩, by simp [addL], drop_all (addL_all (addL_all (fun z h => nomatch h) ⟨.inl (.inr (List.mem_append_right _ (List.mem_append_right _ (List.mem_append_right _ (List.mem_append_right _ (List.mem_append_left _ (ndN_d ..))))))), mk_fit (by decide) (by simp [addL]) (by decide)⟩) ⟨.inl (.inr (List.mem_append_right _ (List.mem_append_right _ (List.mem_append_right _ (List.mem_append_left _ (ndN_d ..)))))), mk_fit (by decide) (by simp [addL]) (by decide)⟩), by rw [chk_t A2 A4 c2 c4]⟩), SX.noAli rfl⟩) ?_
  refine SX.D (.bool ((80 : Int) != 80)) ?_
  refine SX.B ((80 : Int) != 80) (fun h32 => absurd h32 (by decide)) (fun h32 => ?_)
  try simp only [NRM] at h32
  refine SX.VC_df (dgV (headF ([] : List Lk))) (fun α => ⟨[⟨.string noneT, 0, []⟩, ⟨.slice none 0 0, 1, ([] : List W8).flatMap c8⟩], ⟨by kernel_rfl, by kernel_rfl, by kernel_rfl, trivial⟩, .inr (.inr (.inl ⟨rfl, ⟨(.inl (.inl (.inl (.inl (.inl (ks0_1)))))), (.inl (.inl (.inl (.inl (.inl (ks0_2))))))⟩, noneT, _, [], rfl, by decide, by decide, rfl⟩)), SX.noAli rfl⟩) ((dgV_fit _)) ?_
  refine SX.VC_df (Value.agg ((dgL (headF [])).flatMap c8).toArray) (fun α => SX.app_rel (f := c8) (l1 := [3#8, 4, 1, 6, 1, 0, 2, 32]) (l2 := dgL (headF [])) c8_len c8o (by decide) (by kernel_rfl) (SX.src_own (by kernel_rfl)) (by simp only [List.length_append, List.length_cons, List.length_nil, dgL_len]; decide) (by simp only [List.length_append, List.length_cons, List.length_nil, dgL_len]; decide)) (rfl) ?_
  refine SX.VC_df (Value.agg (([2#8, 1, 120]).flatMap c8).toArray) (fun α => SX.app_rel (f := c8) (l1 := [3#8, 4, 1, 6, 1, 0, 2, 32] ++ dgL (headF [])) (l2 := [2#8, 1, 120]) c8_len c8o (by decide) (by kernel_rfl) ⟨⟨_, 1, _⟩, ⟨rfl, trivial⟩, rfl, by kernel_rfl⟩ (by simp only [List.length_append, List.length_cons, List.length_nil, dgL_len]; decide) (by simp only [List.length_append, List.length_cons, List.length_nil, dgL_len]; decide)) (rfl) ?_
  refine SX.E (.bool true) (fun α => SX.extBnd (A := A1) (n := 1) (c := c1) (j := 0) (fun _ => g1) (by kernel_rfl) (by kernel_rfl) (by omega)) ?_
  refine SX.E (.bool true) (fun α => SX.extBnd (A := A1) (n := 1) (c := c1) (j := 0) (fun _ => g1) (by kernel_rfl) (by kernel_rfl) (by omega)) ?_
  refine SX.VC_df (dgV (headF ([] : List Lk))) (fun α => partElems (o := 2) (k := 32) (cells := lkL (addL [] 3 A2 c2 xT)) (A := A1) (n := 1) (c := c1) (j := 0) g1 (by kernel_rfl) (by kernel_rfl) (by omega) (K_in (y := ⟨.slice A1 1 c1, 35, lkL (addL [] 3 A2 c2 xT)⟩) rfl (List.mem_append_right _ (List.mem_append_right _ (List.mem_append_right _ (List.mem_append_right _ (List.mem_append_left _ (ndN_a ..))))))) (by rw [lkL_len]; simp [addL]) (by kernel_rfl)) ((dgV_fit _)) ?_
  refine SX.E (.bool (false ^^ decide (dgL (headF ([] : List Lk)) = dgL (headF ([] : List Lk))))) (fun α => SX.eqr_rel (f := (fun l : List W8 => l.map w8)) w8_map_inj (y := dgL (headF ([] : List Lk))) (z := dgL (headF ([] : List Lk))) (by kernel_rfl) (by kernel_rfl) (by kernel_rfl)) ?_
  refine SX.B (false ^^ decide (dgL (headF ([] : List Lk)) = dgL (headF ([] : List Lk)))) (fun h39 => ?_) (fun h39 => absurd h39 (by simp))
  try simp only [NRM] at h39
  refine SX.VC_df (dgV (headF ([] : List Lk))) (fun α => ⟨[⟨.slice none 0 0, 35, lkL []⟩], ⟨by kernel_rfl, trivial⟩, .inr (.inr (.inr (⟨rfl, _, ([] : List Lk), rfl, ⟨(.inl (.inl (.inl (.inl (.inl (ks0_1)))))), (.inl (.inl (.inl (.inl (.inl (ks0_2))))))⟩, (by simp [addL]), (fun z h => nomatch h), rfl⟩))), SX.noAli rfl⟩) ((dgV_fit _)) ?_
  refine SX.E (.bool (false ^^ decide (dgL (headF ([] : List Lk)) = dgL (headF ([] : List Lk))))) (fun α => SX.eqr_rel (f := (fun l : List W8 => l.map w8)) w8_map_inj (y := dgL (headF ([] : List Lk))) (z := dgL (headF ([] : List Lk))) (by kernel_rfl) (by kernel_rfl) (by kernel_rfl)) ?_
  refine SX.B (false ^^ decide (dgL (headF ([] : List Lk)) = dgL (headF ([] : List Lk)))) (fun h41 => ?_) (fun h41 => absurd h41 (by simp))
  try simp only [NRM] at h41
  refine SX.VC_df (dgV (headF (addL [] 3 A2 c2 xT))) (fun α => ⟨[⟨.slice A1 1 c1, 35, lkL (addL [] 3 A2 c2 xT)⟩], ⟨by kernel_rfl, by kernel_rfl, K_in (y := ⟨.slice A1 1 c1, 35, lkL (addL [] 3 A2 c2 xT)⟩) (by kernel_rfl) (List.mem_append_right _ (List.mem_append_right _ (List.mem_append_right _ (List.mem_append_right _ (List.mem_append_left _ (ndN_a ..)))))), trivial⟩, .inr (.inr (.inr (⟨rfl, _, (addL [] 3 A2 c2 xT), rfl, ⟨(.inl (.inl (.inl (.inl (.inl (ks0_1)))))), (.inl (.inl (.inl (.inl (.inl (ks0_2))))))⟩, (by simp [addL]), (addL_all (fun z h => nomatch h) ⟨.inl (.inr (List.mem_append_right _ (List.mem_append_right _ (List.mem_append_right _ (List.mem_append_right _ (List.mem_append_left _ (ndN_d ..))))))), mk_fit (by decide) (by simp [addL]) (by decide)⟩), rfl⟩))), SX.noAli rfl⟩) ((dgV_fit _)) ?_
  refine SX.VC_df (dgV (headF (addL [] 3 A2 c2 xT))) (fun α => ⟨[⟨.string linkT, 0, []⟩, ⟨(α 11).h, 1, (encL (flLk (mkLk [] 3 A2 c2 xT))).flatMap c8⟩], ⟨by kernel_rfl, by kernel_rfl, Eq.trans (b := (⟨(α 11).h, 1, ([3#8, 4, 1, 6, 1, 0, 2, 32] ++ dgL (headF []) ++ [2, 1, 120]).flatMap c8⟩ : SX.Arg)) (by rw [enc_x]) (by kernel_rfl), trivial⟩, .inr (.inr (.inl ⟨rfl, ⟨(.inl (.inl (.inl (.inl (.inl (ks0_1)))))), (.inl (.inl (.inl (.inl (.inl (ks0_2))))))⟩, linkT, _, encL (flLk (mkLk [] 3 A2 c2 xT)), rfl, by decide, by rw [enc_x]; simp only [List.length_append, List.length_cons, List.length_nil, dgL_len]; decide, rfl⟩)), SX.noAli rfl⟩) ((dgV_fit _)) ?_
  refine SX.E (.bool (false ^^ decide (dgL (headF (addL [] 3 A2 c2 xT)) = dgL (headF (addL [] 3 A2 c2 xT))))) (fun α => SX.eqr_rel (f := (fun l : List W8 => l.map w8)) w8_map_inj (y := dgL (headF (addL [] 3 A2 c2 xT))) (z := dgL (headF (addL [] 3 A2 c2 xT))) (by kernel_rfl) (by kernel_rfl) (by kernel_rfl)) ?_
  refine SX.B (false ^^ decide (dgL (headF (addL [] 3 A2 c2 xT)) = dgL (headF (addL [] 3 A2 c2 xT)))) (fun h44 => ?_) (fun h44 => absurd h44 (by simp))
  try simp only [NRM] at h44
  refine SX.E (.bool true) (fun α => SX.extBnd (A := A3) (n := 2) (c := c3) (j := 1) (fun _ => g3) (by kernel_rfl) (by kernel_rfl) (by omega)) ?_
  refine SX.E (.bool true) (fun α => SX.extBnd (A := A3) (n := 2) (c := c3) (j := 1) (fun _ => g3) (by kernel_rfl) (by kernel_rfl) (by omega)) ?_
  refine SX.VC_df (dgV (headF (addL [] 3 A2 c2 xT))) (fun α => partElems (o := 2) (k := 32) (cells := lkL (addL (addL [] 3 A2 c2 xT) 3 A4 c4 yT)) (A := A3) (n := 2) (c := c3) (j := 1) g3 (by kernel_rfl) (by kernel_rfl) (by omega) (K_in (y := ⟨.slice A3 2 c3, 35, lkL (addL (addL [] 3 A2 c2 xT) 3 A4 c4 yT)⟩) rfl (List.mem_append_right _ (List.mem_append_right _ (List.mem_append_right _ (List.mem_append_left _ (ndN_a ..)))))) (by rw [lkL_len]; simp [addL]) (by kernel_rfl)) ((dgV_fit _)) ?_
  refine SX.VC_df (dgV (headF (addL [] 3 A2 c2 xT))) (fun α => ⟨[⟨.slice A1 1 c1, 35, lkL (addL [] 3 A2 c2 xT)⟩], ⟨by kernel_rfl, by kernel_rfl, K_in (y := ⟨.slice A1 1 c1, 35, lkL (addL [] 3 A2 c2 xT)⟩) (by kernel_rfl) (List.mem_append_right _ (List.mem_append_right _ (List.mem_append_right _ (List.mem_append_right _ (List.mem_append_left _ (ndN_a ..)))))), trivial⟩, .inr (.inr (.inr (⟨rfl, _, (addL [] 3 A2 c2 xT), rfl, ⟨(.inl (.inl (.inl (.inl (.inl (ks0_1)))))), (.inl (.inl (.inl (.inl (.inl (ks0_2))))))⟩, (by simp [addL]), (addL_all (fun z h => nomatch h) ⟨.inl (.inr (List.mem_append_right _ (List.mem_append_right _ (List.mem_append_right _ (List.mem_append_right _ (List.mem_append_left _ (ndN_d ..))))))), mk_fit (by decide) (by simp [addL]) (by decide)⟩), rfl⟩))), SX.noAli rfl⟩) ((dgV_fit _)) ?_
  refine SX.E (.bool (false ^^ decide (dgL (headF (addL [] 3 A2 c2 xT)) = dgL (headF (addL [] 3 A2 c2 xT))))) (fun α => SX.eqr_rel (f := (fun l : List W8 => l.map w8)) w8_map_inj (y := dgL (headF (addL [] 3 A2 c2 xT))) (z := dgL (headF (addL [] 3 A2 c2 xT))) (by kernel_rfl) (by kernel_rfl) (by kernel_rfl)) ?_
  refine SX.B (false ^^ decide (dgL (headF (addL [] 3 A2 c2 xT)) = dgL (headF (addL [] 3 A2 c2 xT)))) (fun h49 => ?_) (fun h49 => absurd h49 (by simp))
  try simp only [NRM] at h49
  refine SX.E (.bool true) (fun α => SX.extBnd (A := A3) (n := 2) (c := c3) (j := 1) (fun _ => g3) (by kernel_rfl) (by kernel_rfl) (by omega)) ?_
  refine SX.E (.bool true) (fun α => SX.extBnd (A := A3) (n := 2) (c := c3) (j := 1) (fun _ => g3) (by kernel_rfl) (by kernel_rfl) (by omega)) ?_
  refine SX.E (.int .i64 ((mkLk (addL [] 3 A2 c2 xT) 3 A4 c4 yT).no)) (fun α => SX.extElem (o := 1) (v := .int .i64 ((mkLk (addL [] 3 A2 c2 xT) 3 A4 c4 yT).no)) (f := cellsLk) (l := (addL (addL [] 3 A2 c2 xT) 3 A4 c4 yT)) (A := A3) (n := 2) (c := c3) (j := 1) (z := (mkLk (addL [] 3 A2 c2 xT) 3 A4 c4 yT)) (fun _ => rfl) (fun _ => g3) (by kernel_rfl) (by kernel_rfl) (by omega) (K_in (y := ⟨.slice A3 2 c3, 35, lkL (addL (addL [] 3 A2 c2 xT) 3 A4 c4 yT)⟩) rfl (List.mem_append_right _ (List.mem_append_right _ (List.mem_append_right _ (List.mem_append_left _ (ndN_a ..)))))) (by kernel_rfl) (by decide) (by kernel_rfl)) ?_
  refine SX.D (.bool (((mkLk (addL [] 3 A2 c2 xT) 3 A4 c4 yT).no : Int) == 1)) ?_
  refine SX.B (((mkLk (addL [] 3 A2 c2 xT) 3 A4 c4 yT).no : Int) == 1) (fun h53 => ?_) (fun h53 => absurd h53 (by show ¬ (((1 : Nat) : Int) == 1) = false; decide))
  try simp only [NRM] at h53
  refine SX.E (.bool true) (fun α => SX.extBnd (A := A3) (n := 2) (c := c3) (j := 1) (fun _ => g3) (by kernel_rfl) (by kernel_rfl) (by omega)) ?_
  refine SX.E (.bool true) (fun α => SX.extBnd (A := A3) (n := 2) (c := c3) (j := 1) (fun _ => g3) (by kernel_rfl) (by kernel_rfl) (by omega)) ?_
  refine SX.E ((.slice A4 yT.size c4)) (fun α => SX.extElem (o := 34) (v := .slice A4 yT.size c4) (f := cellsLk) (l := (addL (addL [] 3 A2 c2 xT) 3 A4 c4 yT)) (A := A3) (n := 2) (c := c3) (j := 1) (z := (mkLk (addL [] 3 A2 c2 xT) 3 A4 c4 yT)) (fun _ => rfl) (fun _ => g3) (by kernel_rfl) (by kernel_rfl) (by omega) (K_in (y := ⟨.slice A3 2 c3, 35, lkL (addL (addL [] 3 A2 c2 xT) 3 A4 c4 yT)⟩) rfl (List.mem_append_right _ (List.mem_append_right _ (List.mem_append_right _ (List.mem_append_left _ (ndN_a ..)))))) (by kernel_rfl) (by decide) (by kernel_rfl)) ?_
  refine SX.E (.string yT) (fun α => b2sx_of (tx := yT) (A := A4) (n := yT.size) (c := c4) (by kernel_rfl) (K_in (y := ⟨.slice A4 yT.size c4, 1, (sb yT).flatMap c8⟩) rfl (List.mem_append_right _ (List.mem_append_right _ (List.mem_append_right _ (List.mem_append_left _ (ndN_d ..))))))) ?_
  refine SX.D (.bool (decide (yT = ⟨#[121]⟩))) ?_
  exact SX.F (.bool (decide (yT = ⟨#[121]⟩))) (by first | rfl | (congr 1; decide))
def clashP (a b : List Lk) : Prop := (textT a ≠ textT b ∨ textB a ≠ textB b) ∧ dgL (headF a) = dgL (headF b)
noncomputable instance (a b : List Lk) : Decidable (clashP a b) := Classical.propDecidable _
noncomputable def clashB (a b : List Lk) : Bool := decide (clashP a b)
theorem clash_ne {a b : List Lk} (h : textT a ≠ textT b ∨ textB a ≠ textB b) : clashB a b = decide (dgL (headF a) = dgL (headF b)) := by
  unfold clashB
  by_cases e : dgL (headF a) = dgL (headF b)
  · rw [decide_eq_true e, decide_eq_true ⟨h, e⟩]
  rw [decide_eq_false e, decide_eq_false fun k => e k.2]
theorem clash_eq {a b : List Lk} (h : textT a = textT b) (h2 : textB a = textB b) : clashB a b = false := by
  unfold clashB
  exact decide_eq_false fun k => k.1.elim (fun e => e h) fun e => e h2
theorem b2s_row {C : SX.Cx} {ρ : List Value} {α : Nat → SX.AV} {c : SX.V} {l : List W8} (h : SX.cellsV (c.den ρ α) = l.flatMap c8) : SX.Opq.rel C ρ α .b2s [c] (.string (bt l)) := by
  refine ⟨l.map UInt8.ofBitVec, ?_, rfl⟩
  rw [h, List.map_map]
  clear h
  induction l with
  | nil => rfl
  | cons a l ih => rw [List.flatMap_cons, ih]; rfl
theorem cat1p {ρ : List Value} {α : Nat → SX.AV} {j : Nat} {p : List Nat} {l : List Value} (h : p.foldl SX.comp (ρ.getD j undef) = .agg l.toArray) : SX.cellsV ((SX.V.cat [.x j p]).den ρ α) = l := by
  simp only [SX.V.den, SX.denL, h, List.flatMap_cons, List.flatMap_nil, SX.cellsV, List.append_nil]
theorem K_of {C : SX.Cx} {v : Value} {y : SX.Arg} (hv : v = y.v) (h : C.K y.v y.sz y.cells) : C.K v y.sz y.cells := by subst hv; exact h
theorem bt_inj {x y : List W8} (h : bt x = bt y) : x = y := by rw [← sb_bt x, ← sb_bt y, h]
def Lk.num (z : Lk) : Prop := (-9223372036854775808 ≤ z.node ∧ z.node ≤ 9223372036854775807) ∧ (-9223372036854775808 ≤ z.no ∧ z.no ≤ 9223372036854775807)
theorem few_fit {w : World} {ls : List Lk} (h : fewB ls = true) (hd : ∀ z ∈ ls, z.rd w) (hn : ∀ z ∈ ls, z.num) : ∀ z ∈ ls, z.fit := fun z hz => by
  refine ⟨(hn z hz).1, (hn z hz).2, ?_⟩
  have h1 := (fewB_iff.1 h).2 z hz
  have h2 : ((sb z.tx).flatMap c8).length = z.n * 1 := (lk_bytes (hd z hz)).1.1
  rw [SX.flat_len c8_len, sb_len] at h2
  omega
def RQC (K : Value → Nat → List Value → Prop) (f : FuncId) (xs : List SX.Arg) (v : Value) : Prop :=
  (f = 31 ∧ ∃ (u : Value) (ls : List Lk), xs = [⟨u, 35, lkL ls⟩] ∧ LaidK K ∧ ls.length ≤ 4611686018427387904 ∧ (∀ z ∈ ls, z.kn K ∧ z.fit) ∧ v = .tuple #[.string (textT ls), .agg ((textB ls).flatMap c8).toArray]) ∨
  (f = 15 ∧ ∃ (u : Value) (ls : List Lk), xs = [⟨u, 35, lkL ls⟩] ∧ LaidK K ∧ ls.length ≤ 4611686018427387904 ∧ (∀ z ∈ ls, z.kn K ∧ z.fit) ∧ v = dgV (headF ls))
def shpQC : FuncId → Option SX.Sh := fun f => if f = 31 then some (.tp [.one, .sl 1]) else if f = 15 then some (.ag 32) else none
noncomputable def cxQC (K A : Value → Nat → List Value → Prop) : SX.Cx := { P := Tryd.prog, R := RQC, shp := shpQC, K := K, A := A, trm := true }
theorem okQC (K A : Value → Nat → List Value → Prop) : (cxQC K A).Ok := by
  refine SX.Cx.ok_of (fun _ => rfl) ?_
  intro K f xs v W hR hrd hKf
  rcases hR with ⟨rfl, u, ls, rfl, hL, hb, hk, rfl⟩ | ⟨rfl, u, ls, rfl, hL, hb, hk, rfl⟩
  · obtain ⟨A, n, c, rfl, hr, hc, hln⟩ := lk_arg (hrd ⟨u, 35, lkL ls⟩ (by simp))
    exact (rtext_any ls A n c W hr hc (by omega) (fun z hz => (hk z hz).1.rd hKf) (fun z hz => (hk z hz).2) (laid_of hL hKf)).mono fun e w' h => SX.SlRet.ok10 rfl h
  obtain ⟨A, n, c, rfl, hr, hc, hln⟩ := lk_arg (hrd ⟨u, 35, lkL ls⟩ (by simp))
  exact (head_any ls A n c W hr hc (by omega) (fun z hz => (hk z hz).1.rd hKf) (fun z hz => (hk z hz).2) (laid_of hL hKf)).mono fun e w' h => SX.plainOk rfl h
def tree_clash : SX.Tree :=
(.df (.call 31 [(.ext 35)]) [(.q 0)] (.tp [.one, (.sl 1)])
(.df (.call 31 [(.ext 35)]) [(.q 1)] (.tp [.one, (.sl 1)])
(.df (.bin .neq 9) [(.x 2 [0]), (.x 3 [0])] .one
(.br 4 []
(.df (.call 15 [(.ext 35)]) [(.q 0)] (.ag 32)
(.df (.call 15 [(.ext 35)]) [(.q 1)] (.ag 32)
(.df (.eqr false 32 [(.i .u8), (.i .u8), (.i .u8), (.i .u8), (.i .u8), (.i .u8), (.i .u8), (.i .u8), (.i .u8), (.i .u8), (.i .u8), (.i .u8), (.i .u8), (.i .u8), (.i .u8), (.i .u8), (.i .u8), (.i .u8), (.i .u8), (.i .u8), (.i .u8), (.i .u8), (.i .u8), (.i .u8), (.i .u8), (.i .u8), (.i .u8), (.i .u8), (.i .u8), (.i .u8), (.i .u8), (.i .u8)]) (SX.Y 5 0 32 ++ SX.Y 6 0 32) .one
(.ret (.q 7) [] []))))
(.df .b2s [(.cat [(.x 2 [1])])] .one
(.df .b2s [(.cat [(.x 3 [1])])] .one
(.df (.bin .neq 9) [(.q 5), (.q 6)] .one
(.br 7 []
(.df (.call 15 [(.ext 35)]) [(.q 0)] (.ag 32)
(.df (.call 15 [(.ext 35)]) [(.q 1)] (.ag 32)
(.df (.eqr false 32 [(.i .u8), (.i .u8), (.i .u8), (.i .u8), (.i .u8), (.i .u8), (.i .u8), (.i .u8), (.i .u8), (.i .u8), (.i .u8), (.i .u8), (.i .u8), (.i .u8), (.i .u8), (.i .u8), (.i .u8), (.i .u8), (.i .u8), (.i .u8), (.i .u8), (.i .u8), (.i .u8), (.i .u8), (.i .u8), (.i .u8), (.i .u8), (.i .u8), (.i .u8), (.i .u8), (.i .u8), (.i .u8)]) (SX.Y 8 0 32 ++ SX.Y 9 0 32) .one
(.ret (.q 10) [] []))))
(.ret (.k (.bool false)) [] [])))))))))
def args_clash : List SX.V := [.x 0 [], .x 1 []]
set_option maxRecDepth 100000 in
theorem run_clash (K A : Value → Nat → List Value → Prop) : (SX.run (cxQC K A) ⟨fun f => true, [], 0, 100⟩ 100000 0 (SX.door 17 Tryd.f17 args_clash [.one, .one]) [.code (Tryd.f17.body.getD .skip), .top Tryd.f17]).strip = tree_clash := by kernel_rfl
set_option maxRecDepth 100000 in
set_option maxHeartbeats 4000000 in
theorem clash_any (la : List Lk) (A : Option Addr) (n c : Nat) (lb : List Lk) (B : Option Addr) (m d : Nat) (w : World) (hr : Rd w 35 A n (lkL la)) (hc : n ≤ c) (hn : n ≤ 4611686018427387904) (hd : ∀ z ∈ la, z.rd w) (hfit : ∀ z ∈ la, z.fit) (hr2 : Rd w 35 B m (lkL lb)) (hc2 : m ≤ d) (hn2 : m ≤ 4611686018427387904) (hd2 : ∀ z ∈ lb, z.rd w) (hfit2 : ∀ z ∈ lb, z.fit) (hlaid : Laid w) : Calls Tryd.prog 17 #[.slice A n c, .slice B m d] w fun e w' => e = .returned (.bool (clashB la lb)) ∧ Below w.heap.size w w' := by
  refine SX.calls_of_run (C := cxQC (K2 A n c la B m d lb) (fun _ _ _ => False)) (G := ⟨fun f => true, [], 0, 100⟩) (args := args_clash) (sh := [.one, .one]) (ρ := [.slice A n c, .slice B m d]) 100000 tree_clash (okQC _ _) Tryd.func17 rfl (run_clash _ _) (by kernel_rfl) (by kernel_rfl) (by kernel_rfl) ?_ ?_
  · rintro W hW s sz cells (h | h)
    · exact KL_rd hW hr hd hlaid s sz cells h
    exact KL_rd hW hr2 hd2 hlaid s sz cells h
  have hA := SX.rd_some hr
  have hlc : (lkL la).length = n * 35 := hr.1
  have hln : la.length = n := by rw [lkL_len] at hlc; omega
  have hB := SX.rd_some hr2
  have hlc2 : (lkL lb).length = m * 35 := hr2.1
  have hlm : lb.length = m := by rw [lkL_len] at hlc2; omega
  unfold tree_clash
  refine SX.VC_df (.tuple #[.string ((textT la)), Value.agg ((textB la).flatMap c8).toArray]) (fun α => ⟨[⟨.slice A n c, 35, lkL la⟩], ⟨by kernel_rfl, by kernel_rfl, .inl (.inl (SX.SubK.full hlc hc)), trivial⟩, .inl ⟨rfl, _, la, rfl, K2_laid _ _ _ _ _ _ _ _, by omega, fun y hy => ⟨.inl (.inl (KL_data hy)), hfit y hy⟩, rfl⟩, SX.noAli rfl⟩) ((fit01 _ rfl _)) ?_
  refine SX.VC_df (.tuple #[.string ((textT lb)), Value.agg ((textB lb).flatMap c8).toArray]) (fun α => ⟨[⟨.slice B m d, 35, lkL lb⟩], ⟨by kernel_rfl, by kernel_rfl, .inr (.inl (SX.SubK.full hlc2 hc2)), trivial⟩, .inl ⟨rfl, _, lb, rfl, K2_laid _ _ _ _ _ _ _ _, by omega, fun y hy => ⟨.inl (.inr (KL_data hy)), hfit2 y hy⟩, rfl⟩, SX.noAli rfl⟩) ((fit01 _ rfl _)) ?_
  refine SX.D (.bool (!decide ((textT la) = (textT lb)))) ?_
  refine SX.B (!decide ((textT la) = (textT lb))) (fun h4 => ?_) (fun h4 => ?_)
  · try simp only [NRM] at h4
    refine SX.VC_df (dgV (headF la)) (fun α => ⟨[⟨.slice A n c, 35, lkL la⟩], ⟨by kernel_rfl, by kernel_rfl, .inl (.inl (SX.SubK.full hlc hc)), trivial⟩, .inr (⟨rfl, _, la, rfl, K2_laid _ _ _ _ _ _ _ _, by omega, fun y hy => ⟨.inl (.inl (KL_data hy)), hfit y hy⟩, rfl⟩), SX.noAli rfl⟩) ((dgV_fit _)) ?_
    refine SX.VC_df (dgV (headF lb)) (fun α => ⟨[⟨.slice B m d, 35, lkL lb⟩], ⟨by kernel_rfl, by kernel_rfl, .inr (.inl (SX.SubK.full hlc2 hc2)), trivial⟩, .inr (⟨rfl, _, lb, rfl, K2_laid _ _ _ _ _ _ _ _, by omega, fun y hy => ⟨.inl (.inr (KL_data hy)), hfit2 y hy⟩, rfl⟩), SX.noAli rfl⟩) ((dgV_fit _)) ?_
    refine SX.E (.bool (false ^^ decide (dgL (headF la) = dgL (headF lb)))) (fun α => SX.eqr_rel (f := (fun l : List W8 => l.map w8)) w8_map_inj (y := dgL (headF la)) (z := dgL (headF lb)) (by kernel_rfl) (by kernel_rfl) (by kernel_rfl)) ?_
    exact SX.F (.bool (false ^^ decide (dgL (headF la) = dgL (headF lb)))) (by rw [clash_ne (.inl (by simpa using h4)), Bool.false_xor])
  try simp only [NRM] at h4
  refine SX.E (.string ((bt (textB la)))) (fun α => b2s_row (l := textB la) (cat1p (l := (textB la).flatMap c8) (by kernel_rfl))) ?_
  refine SX.E (.string ((bt (textB lb)))) (fun α => b2s_row (l := textB lb) (cat1p (l := (textB lb).flatMap c8) (by kernel_rfl))) ?_
  refine SX.D (.bool (!decide ((bt (textB la)) = (bt (textB lb))))) ?_
  refine SX.B (!decide ((bt (textB la)) = (bt (textB lb)))) (fun h7 => ?_) (fun h7 => ?_)
  · try simp only [NRM] at h7
    refine SX.VC_df (dgV (headF la)) (fun α => ⟨[⟨.slice A n c, 35, lkL la⟩], ⟨by kernel_rfl, by kernel_rfl, .inl (.inl (SX.SubK.full hlc hc)), trivial⟩, .inr (⟨rfl, _, la, rfl, K2_laid _ _ _ _ _ _ _ _, by omega, fun y hy => ⟨.inl (.inl (KL_data hy)), hfit y hy⟩, rfl⟩), SX.noAli rfl⟩) ((dgV_fit _)) ?_
    refine SX.VC_df (dgV (headF lb)) (fun α => ⟨[⟨.slice B m d, 35, lkL lb⟩], ⟨by kernel_rfl, by kernel_rfl, .inr (.inl (SX.SubK.full hlc2 hc2)), trivial⟩, .inr (⟨rfl, _, lb, rfl, K2_laid _ _ _ _ _ _ _ _, by omega, fun y hy => ⟨.inl (.inr (KL_data hy)), hfit2 y hy⟩, rfl⟩), SX.noAli rfl⟩) ((dgV_fit _)) ?_
    refine SX.E (.bool (false ^^ decide (dgL (headF la) = dgL (headF lb)))) (fun α => SX.eqr_rel (f := (fun l : List W8 => l.map w8)) w8_map_inj (y := dgL (headF la)) (z := dgL (headF lb)) (by kernel_rfl) (by kernel_rfl) (by kernel_rfl)) ?_
    exact SX.F (.bool (false ^^ decide (dgL (headF la) = dgL (headF lb)))) (by rw [clash_ne (.inr fun e => by rw [e] at h7; simp at h7), Bool.false_xor])
  try simp only [NRM] at h7
  exact SX.F (.bool false) (by rw [clash_eq (by simpa using h4) (bt_inj (by simpa using h7))])
end Go.Proofs.YtdamlaegboiokaaDoor
namespace Go.Proofs.YtdamlaegboiokaaDoor
set_option maxRecDepth 20000
open Go Go.RowKit Go.ChangeShapes Go.WideShapes Go.ChangeAt
theorem max_eq : maxLen = 9223372036854775807 := by unfold maxLen; rfl
section
variable {H : Type} {enc : TypeId × Value → H} {P : Program} {w : World} {base : Nat} {spare : Nat → Bool} {held : Bool} {fuel : Nat} {t : TypeId} {cs : List Value}
theorem take_at {off : Nat} {v : Value} (h : (cs.drop off).take 1 = [v]) : cs[off]? = some v := by
  have : ((cs.drop off).take 1)[0]? = some v := by rw [h]; rfl
  simpa [List.getElem?_take, List.getElem?_drop] using this
end
section
variable {H : Type} {enc : TypeId × Value → H} {w : World} {base : Nat} {sp : Nat → Bool} {held : Bool} {r : Reach} {b0 : Nat} {v : Value} {d : DataW H} {ps : List MemPlace}
theorem els_of {β : Type} {f : β → List Value} {Q : β → Prop} {sz : Nat} (a : Addr) : ∀ (len : Nat), (∀ i, i < len → ∃ c : β, Q c ∧ w.cells? base (a.add (i * sz)) sz = some (f c)) →
    ∃ l : List β, l.length = len ∧ (∀ c ∈ l, Q c) ∧ ∀ i c, l[i]? = some c → w.cells? base (a.add (i * sz)) sz = some (f c)
  | 0, _ => ⟨[], rfl, (fun _ h => nomatch h), by simp⟩
  | len + 1, h => by
    obtain ⟨l, hl, hq, hx⟩ := els_of a len (fun i hi => h i (by omega))
    obtain ⟨c, hqc, hc⟩ := h len (by omega)
    refine ⟨l ++ [c], by simp [hl], fun c' hc' => ?_, fun i c' hc' => ?_⟩
    · rcases List.mem_append.1 hc' with h1 | h1
      · exact hq c' h1
      obtain rfl : c' = c := by simpa using h1
      exact hqc
    rw [List.getElem?_append] at hc'
    split at hc'
    · exact hx i c' hc'
    have : i - l.length = 0 := by
      rcases Nat.eq_zero_or_pos (i - l.length) with h0 | h0
      · exact h0
      rw [List.getElem?_eq_none (by simp; omega)] at hc'; cases hc'
    rw [this] at hc'
    obtain rfl : c = c' := by simpa using hc'
    obtain rfl : i = len := by omega
    exact hc
theorem slice_of {β : Type} {f : β → List Value} {Q : β → Prop} {sz : Nat} {t e : TypeId} {n : Nat} {cs : List Value} {y : DataW H × List MemPlace} (hu : Tryd.prog.underlying t = some (.slice e)) (hC : Tryd.prog.cellsOf e = sz) (h0 : 0 < sz) (hlen : ∀ c, (f c).length = sz)
    (hel : ∀ (n : Nat) (cs : List Value) (y : DataW H × List MemPlace), DataW.trod enc Tryd.prog w base sp held n e cs = some y → ∃ c, Q c ∧ cs = f c) (hf : DataW.trod enc Tryd.prog w base sp held n t cs = some y) :
    ∃ (A : Option Addr) (k cap : Nat) (l : List β), cs = [.slice A k cap] ∧ Rd w sz A k (l.flatMap f) ∧ k ≤ cap ∧ cap ≤ maxLen ∧ ∀ c ∈ l, Q c := by
  rcases DataW.trod_slice hu hf with ⟨he, _⟩ | ⟨a, len, cap', elems, rest, m, _, he, _, _, hlc, hcm, hel', hcell, _, _⟩
  · exact ⟨none, 0, 0, [], he, ⟨by simp, fun h => absurd h (by omega)⟩, Nat.le_refl _, by omega, fun _ h => nomatch h⟩
  rw [hC] at hcell
  obtain ⟨l, hl, hq, hx⟩ := els_of (w := w) (base := base) (f := f) (Q := Q) (sz := sz) a len fun i hi => by
    have h1 := hcell i hi
    rw [List.getElem?_eq_getElem (by omega)] at h1
    cases hq : w.cells? base (a.add (i * sz)) sz with
    | none => rw [hq] at h1; simp at h1
    | some cs =>
      rw [hq] at h1
      obtain ⟨c, hqc, rfl⟩ := hel _ _ _ (by simpa using h1)
      exact ⟨c, hqc, rfl⟩
  have hll : (l.flatMap f).length = len * sz := by rw [SX.flat_len hlen, hl]
  refine ⟨some a, len, cap', l, he, ⟨hll, fun hn => ⟨a, rfl, ?_, fun j u hu => ?_⟩⟩, by omega, by omega, hq⟩
  · obtain ⟨c, hc⟩ : ∃ c, l[0]? = some c := ⟨_, List.getElem?_eq_getElem (by omega)⟩
    have := World.cells?_block (hx 0 c hc) (by omega)
    rwa [block_of_add] at this
  have hj : j < len * sz := by
    have := (List.getElem?_eq_some_iff.1 hu).1
    rwa [hll] at this
  have hd : j / sz < len := Nat.div_lt_of_lt_mul (by rw [Nat.mul_comm]; exact hj)
  have hm : j % sz < sz := Nat.mod_lt _ h0
  obtain ⟨c, hc⟩ : ∃ c, l[j / sz]? = some c := ⟨_, List.getElem?_eq_getElem (by omega)⟩
  have hw := hx _ c hc
  have hjj : j / sz * sz + j % sz = j := by rw [Nat.mul_comm]; exact Nat.div_add_mod j sz
  have h4 : (f c)[j % sz]? = some u := by
    rw [← hjj, ← List.getElem?_drop, SX.flat_elem hlen hc, List.getElem?_append_left (by rw [hlen]; exact hm)] at hu
    exact hu
  obtain ⟨_, _, h5⟩ := World.cells?_some hw
  have h6 := (h5 (j % sz) hm).trans h4
  have h7 : (a.add (j / sz * sz)).add (j % sz) = a.add j := by rw [Addr.add_add, hjj]
  rw [h7] at h6
  exact h6
theorem u8_cell {n : Nat} {cs : List Value} {y : DataW H × List MemPlace} (hf : DataW.trod enc Tryd.prog w base sp held n 5 cs = some y) : ∃ b : W8, True ∧ cs = c8 b := by
  obtain ⟨n, e, _, hw⟩ := DataW.trod_int Tryd.underlying5 hf
  have hb := bounds_u8 hw
  refine ⟨BitVec.ofNat 8 n.toNat, trivial, e.trans ?_⟩
  show [Value.int .u8 n] = [Value.int .u8 ((BitVec.ofNat 8 n.toNat).toNat : Int)]
  rw [BitVec.toNat_ofNat]
  congr 2
  omega
theorem u8s_of {n : Nat} {cs : List Value} {y : DataW H × List MemPlace} (hf : DataW.trod enc Tryd.prog w base sp held n 23 cs = some y) : ∃ (A : Option Addr) (k cap : Nat) (l : List W8), cs = [.slice A k cap] ∧ Rd w 1 A k (l.flatMap c8) ∧ k ≤ cap ∧ cap ≤ maxLen := by
  obtain ⟨A, k, cap, l, h1, h2, h3, h4, _⟩ := slice_of (f := c8) (sz := 1) (Q := fun _ => True) Tryd.underlying23 (by kernel_rfl) (by decide) (fun _ => rfl) (fun n cs y h => u8_cell h) hf
  exact ⟨A, k, cap, l, h1, h2, h3, h4⟩
theorem dig_cells {n : Nat} {cs : List Value} {y : DataW H × List MemPlace} (hf : DataW.trod enc Tryd.prog w base sp held n 35 cs = some y) : ∃ f : Nat → W8, cs = (List.range 32).map fun j => w8 (f j) := by
  obtain ⟨xs, m, _, _, hlen, hl, hx⟩ := DataW.trod_array Tryd.underlying35 hf
  have hC : Tryd.prog.cellsOf 35 = 32 := by kernel_rfl
  have hE : Tryd.prog.cellsOf 5 = 1 := by kernel_rfl
  rw [hC] at hlen
  have hb : ∀ j, j < 32 → ∃ b : W8, cs[j]? = some (w8 b) := fun j hj => by
    have g := (hx j hj).trans (List.getElem?_eq_getElem (by omega))
    rw [hE, Nat.mul_one] at g
    obtain ⟨b, _, e⟩ := u8_cell g
    exact ⟨b, take_at e⟩
  refine ⟨fun j => if h : j < 32 then (hb j h).choose else 0, ?_⟩
  apply List.ext_getElem?
  intro j
  by_cases hj : j < 32
  · rw [(hb j hj).choose_spec, List.getElem?_map, List.getElem?_range hj]
    simp only [Option.map_some, dif_pos hj]
  rw [List.getElem?_eq_none (by omega), List.getElem?_eq_none (by rw [List.length_map, List.length_range]; omega)]
theorem i64_wf {a : Int} (h : (Lit.int .i64 a).wf = true) : -9223372036854775808 ≤ a ∧ a ≤ 9223372036854775807 := by
  have h : (decide (IntKind.i64.min ≤ a) && decide (a ≤ IntKind.i64.max)) = true := h
  rw [Bool.and_eq_true, decide_eq_true_eq, decide_eq_true_eq] at h
  exact ⟨h.1, h.2⟩
theorem i64_at {t : TypeId} {fuel off : Nat} {cs : List Value} (hu : Tryd.prog.underlying t = some (.int .i64)) {y : DataW H × List MemPlace} (h : DataW.trod enc Tryd.prog w base sp held fuel t ((cs.drop off).take 1) = some y) : ∃ n, cs[off]? = some (.int .i64 n) ∧ (-9223372036854775808 ≤ n ∧ n ≤ 9223372036854775807) := by
  obtain ⟨n, e, _, hw⟩ := DataW.trod_int hu h
  exact ⟨n, take_at e, i64_wf hw⟩
theorem sb_of (l : List W8) : ∃ tx : ByteArray, sb tx = l := ⟨bt l, sb_bt l⟩
def LkOk (w : World) (z : Lk) : Prop := z.rd w ∧ z.num
theorem link_cells {n : Nat} {cs : List Value} {y : DataW H × List MemPlace} (hf : DataW.trod enc Tryd.prog w base sp held n 37 cs = some y) : ∃ z : Lk, LkOk w z ∧ cs = cellsLk z := by
  obtain ⟨xs, n, _, _, hlen, hl, hx⟩ := DataW.trod_struct Tryd.underlying37 hf
  have hC : Tryd.prog.cellsOf 37 = 35 := by kernel_rfl
  rw [hC] at hlen
  have hl' : xs.length = 4 := hl
  have g0 : DataW.trod enc Tryd.prog w base sp held n 3 ((cs.drop 0).take 1) = some (xs[0]'(by omega)) := (hx 0 _ rfl).trans (List.getElem?_eq_getElem _)
  obtain ⟨v0, e0, b0⟩ := i64_at Tryd.underlying3 g0
  have g1 : DataW.trod enc Tryd.prog w base sp held n 3 ((cs.drop 1).take 1) = some (xs[1]'(by omega)) := (hx 1 _ rfl).trans (List.getElem?_eq_getElem _)
  obtain ⟨v1, e1, b1⟩ := i64_at Tryd.underlying3 g1
  have g2 : DataW.trod enc Tryd.prog w base sp held n 35 ((cs.drop 2).take 32) = some (xs[2]'(by omega)) := (hx 2 _ rfl).trans (List.getElem?_eq_getElem _)
  obtain ⟨f, e2⟩ := dig_cells g2
  have g3 : DataW.trod enc Tryd.prog w base sp held n 23 ((cs.drop 34).take 1) = some (xs[3]'(by omega)) := (hx 3 _ rfl).trans (List.getElem?_eq_getElem _)
  obtain ⟨A, k, cap, l, e3, hr, hk, _⟩ := u8s_of g3
  obtain ⟨tx, rfl⟩ := sb_of l
  refine ⟨⟨v0, v1, f, A, k, cap, tx⟩, ⟨⟨hr, hk⟩, b0, b1⟩, ?_⟩
  show cs = [.int .i64 v0, .int .i64 v1] ++ (List.range 32).map (fun j => w8 (f j)) ++ [.slice A k cap]
  have h0 : cs = cs.take 2 ++ ((cs.drop 2).take 32 ++ cs.drop 34) := by
    rw [show cs.drop 34 = (cs.drop 2).drop 32 by rw [List.drop_drop], List.take_append_drop, List.take_append_drop]
  have h1 : cs.take 2 = [.int .i64 v0, .int .i64 v1] := by
    apply List.ext_getElem?
    intro i
    rw [List.getElem?_take]
    split
    · have hc : i = 0 ∨ i = 1 := by omega
      rcases hc with rfl | rfl
      · exact e0
      exact e1
    rw [List.getElem?_eq_none (by show 2 ≤ i; omega)]
  have h2 : cs.drop 34 = [.slice A k cap] := by
    rw [← e3, List.take_of_length_le (by simp; omega)]
  rw [h0, h1, e2, h2, List.append_assoc]
theorem open_links (hd : DataW.Trod enc Tryd.prog w base sp held 22 v d ps) : ∃ (A : Option Addr) (n cap : Nat) (l : List Lk), v.cells.toList = [.slice A n cap] ∧ Rd w 35 A n (lkL l) ∧ n ≤ cap ∧ cap ≤ maxLen ∧ ∀ z ∈ l, LkOk w z := by
  obtain ⟨fuel, hf⟩ := hd
  exact slice_of (f := cellsLk) (sz := 35) (Q := LkOk w) Tryd.underlying22 (by kernel_rfl) (by decide) (fun _ => rfl) (fun n cs y h => link_cells h) hf
theorem v_slice {r : Reach} {b0 : Nat} {t e : TypeId} (hu : Tryd.prog.underlying t = some (.slice e)) (hval : Value.okWide Tryd.prog w r b0 t v) {A : Option Addr} {n cap : Nat} (h : v.cells.toList = [.slice A n cap]) : v = .slice A n cap := by
  obtain ⟨A', n', c', rfl⟩ := okWide_slice hu hval
  simpa [Value.cells] using h
theorem open_link (hd : DataW.Trod enc Tryd.prog w base sp held 37 v d ps) : ∃ z : Lk, v.cells.toList = cellsLk z ∧ LkOk w z := by
  obtain ⟨fuel, hf⟩ := hd
  obtain ⟨q, h1, h2⟩ := link_cells hf
  exact ⟨q, h2, h1⟩
theorem v_link {r : Reach} {b0 : Nat} (hval : Value.okWide Tryd.prog w r b0 37 v) {q : Lk} (h : v.cells.toList = cellsLk q) : v = valLk q := by
  obtain ⟨cs, rfl, hsz⟩ := okWide_struct Tryd.underlying37 hval
  have : cs = (cellsLk q).toArray := by rw [← h]; rfl
  rw [this]; rfl
end
def laidL : List (String × DataW Unit) := [("kinesphere/digest.start", Rows.laid_kinesphere_digest_start), ("kinesphere/digest.numbers", Rows.laid_kinesphere_digest_numbers)]
theorem gStart : Tryd.prog.globalNamed "kinesphere/digest.start" = some 0 := by kernel_rfl
theorem gNums : Tryd.prog.globalNamed "kinesphere/digest.numbers" = some 1 := by kernel_rfl
theorem laid_world {W : World} (h : laidMetH Tryd.prog laidL W) : Laid W := by
  rw [MakeChecks.laidMetH_plain _ _ _ (by kernel_rfl)] at h
  have h0 : laidMet Tryd.prog (("kinesphere/digest.start", Lib.tabData .u32 (startS.cells.map fun v => match v with | .int _ i => i | _ => 0)) :: [("kinesphere/digest.numbers", Rows.laid_kinesphere_digest_numbers)]) W := cast (by kernel_rfl) h
  have h1 : laidMet Tryd.prog (("kinesphere/digest.numbers", Lib.tabData .u32 (numbersK.map fun x => (x.toNat : Int))) :: []) W := cast (by kernel_rfl) (laidMet.tail h0)
  have T0 := Lib.tabIs_of_head gStart (t := 71) (e := 70) (n := 8) (by kernel_rfl) Tryd.underlying71 Tryd.underlying70 (by kernel_rfl) (by kernel_rfl) h0
  have T1 := Lib.tabIs_of_head gNums (t := 84) (e := 70) (n := 64) (by kernel_rfl) Tryd.underlying84 Tryd.underlying70 (by kernel_rfl) (by kernel_rfl) h1
  have lt : ∀ {b : Nat} {v : Value}, W.cell? ⟨b, 0, none⟩ = some v → b < W.heap.size := fun {b v} h1 => by
    unfold World.cell? at h1
    cases hb : W.heap[b]? with
    | none => simp only [hb] at h1; simp at h1
    | some o => exact (Array.getElem?_eq_some_iff.1 hb).1
  have ad : ∀ b j : Nat, (⟨b, 0, none⟩ : Addr).add j = ⟨b, j, none⟩ := fun b j => by unfold Addr.add; split <;> simp_all
  refine ⟨⟨rfl, fun _ => ⟨_, rfl, lt (T0.cell gStart 0 (by decide)), fun j u hu => ?_⟩⟩, ⟨by rw [SX.flat_len c32_len]; rfl, fun _ => ⟨_, rfl, lt (T1.cell gNums 0 (by decide)), fun j u hu => ?_⟩⟩⟩
  · have hj : j < 8 := (List.getElem?_eq_some_iff.1 hu).1
    rw [ad, T0.cell gStart j (by rw [List.length_map]; exact hj), ← hu]
    have : ∀ j, j < 8 → some (Value.int .u32 ((startS.cells.map fun v => match v with | .int _ i => i | _ => 0).getD j 0)) = startS.cells[j]? := by
      intro j hj
      match j, hj with
      | 0, _ => rfl
      | 1, _ => rfl
      | 2, _ => rfl
      | 3, _ => rfl
      | 4, _ => rfl
      | 5, _ => rfl
      | 6, _ => rfl
      | 7, _ => rfl
    exact this j hj
  have hj : j < 64 := by have := (List.getElem?_eq_some_iff.1 hu).1; rw [SX.flat_len c32_len] at this; exact this
  rw [ad, T1.cell gNums j (by rw [List.length_map]; exact hj), ← hu, flat_c32, List.getElem?_map, List.getD_eq_getElem?_getD, List.getElem?_map, List.getElem?_eq_getElem (show j < numbersK.length from hj)]
  rfl
theorem door_met (os : Os) (args : Array Value) : laidMetH Tryd.prog laidL ((World.doorLaid Tryd.prog 400 os).forCall (fun _ _ => 0) ⟨#[], args, []⟩).memory :=
  laidMetH_of_parts3 (fuel := 8) (laidMet_of_run' 8 (by kernel_rfl) (by kernel_rfl)) (by kernel_rfl) (by kernel_rfl)
theorem or128q : ∀ x : BitVec 8, (x ||| 128#8).toNat % 128 = x.toNat % 128 ∧ 128 ≤ (x ||| 128#8).toNat := by decide
theorem numB_inj (a : Nat) : ∀ (b : Nat) (x y : List W8), numB a ++ x = numB b ++ y → a = b ∧ x = y := by
  induction a using Nat.strongRecOn with
  | ind a ih =>
    intro b x y h
    have e : ∀ u : Nat, (BitVec.ofNat 8 u).toNat = u % 256 := fun u => by simp
    by_cases h1 : a < 128 <;> by_cases h2 : b < 128
    · rw [numB_lt h1, numB_lt h2, List.singleton_append, List.singleton_append] at h
      injection h with h3 h4
      have := congrArg BitVec.toNat h3
      rw [e, e] at this
      exact ⟨by omega, h4⟩
    · rw [numB_lt h1, numB_ge h2, List.singleton_append, List.cons_append] at h
      injection h with h3 h4
      have := congrArg BitVec.toNat h3
      have h5 := (or128q (BitVec.ofNat 8 b)).2
      rw [e] at this
      omega
    · rw [numB_lt h2, numB_ge h1, List.singleton_append, List.cons_append] at h
      injection h with h3 h4
      have := congrArg BitVec.toNat h3
      have h5 := (or128q (BitVec.ofNat 8 a)).2
      rw [e] at this
      omega
    rw [numB_ge h1, numB_ge h2, List.cons_append, List.cons_append] at h
    injection h with h3 h4
    have := congrArg BitVec.toNat h3
    have h5 := (or128q (BitVec.ofNat 8 a)).1
    have h6 := (or128q (BitVec.ofNat 8 b)).1
    rw [e] at h5 h6
    obtain ⟨h7, h8⟩ := ih (a / 128) (by omega) (b / 128) x y h4
    exact ⟨by omega, h8⟩
theorem unsN_inj {a b : Int} (h : unsN a = unsN b) : a = b := by
  unfold unsN at h
  split at h <;> split at h <;> omega
theorem encn_inj {a b : Int} {x y : List W8} (h : encF (.n a) ++ x = encF (.n b) ++ y) : a = b ∧ x = y := by
  simp only [encF, List.cons_append] at h
  injection h with _ h
  obtain ⟨h1, h2⟩ := numB_inj _ _ _ _ h
  exact ⟨unsN_inj h1, h2⟩
theorem encs_inj {a b : ByteArray} {x y : List W8} (h : encF (.s a) ++ x = encF (.s b) ++ y) : a = b ∧ x = y := by
  simp only [encF, List.cons_append, List.append_assoc] at h
  injection h with _ h
  obtain ⟨h1, h2⟩ := numB_inj _ _ _ _ h
  obtain ⟨h3, h4⟩ := List.append_inj h2 (by rw [sb_len, sb_len, h1])
  exact ⟨by rw [← bt_sb a, ← bt_sb b, h3], h4⟩
theorem encLk_inj {y z : Lk} (h : encL (flLk y) = encL (flLk z)) : slE y z := by
  unfold encL at h
  injection h with _ h
  obtain ⟨_, h⟩ := numB_inj _ _ _ _ h
  simp only [flLk, List.flatMap_cons, List.flatMap_nil] at h
  obtain ⟨h1, h⟩ := encn_inj h
  obtain ⟨h2, h⟩ := encn_inj h
  obtain ⟨h3, h⟩ := encs_inj h
  obtain ⟨h4, h⟩ := encs_inj h
  exact ⟨h1, h2, bt_inj h3, h4⟩
def RQG (K : Value → Nat → List Value → Prop) (f : FuncId) (xs : List SX.Arg) (v : Value) : Prop :=
  (f = 8 ∧ LaidK K ∧ xs = [] ∧ v = .bool true) ∨
  (f = 9 ∧ ∃ (u : Value) (ls : List Lk), xs = [⟨u, 35, lkL ls⟩] ∧ LaidK K ∧ ls.length ≤ 9223372036854775807 ∧ v = .bool (fewB ls)) ∨
  (f = 16 ∧ ∃ (u : Value) (ls : List Lk), xs = [⟨u, 35, lkL ls⟩] ∧ LaidK K ∧ ls.length ≤ 4611686018427387904 ∧ (∀ z ∈ ls, z.kn K ∧ z.fit) ∧ v = .int .i64 (chkE ls)) ∨
  (f = 18 ∧ ∃ y z : Lk, xs = [⟨valLk y, 0, []⟩, ⟨valLk z, 0, []⟩] ∧ y.kn K ∧ z.kn K ∧ v = .bool (decide (slE y z))) ∨
  (f = 17 ∧ ∃ (u1 u2 : Value) (la lb : List Lk), xs = [⟨u1, 35, lkL la⟩, ⟨u2, 35, lkL lb⟩] ∧ LaidK K ∧ la.length ≤ 4611686018427387904 ∧ lb.length ≤ 4611686018427387904 ∧ (∀ z ∈ la, z.kn K ∧ z.fit) ∧ (∀ z ∈ lb, z.kn K ∧ z.fit) ∧ v = .bool (clashB la lb))
def shpQG : FuncId → Option SX.Sh := fun f => if f = 8 then some .one else if f = 9 then some .one else if f = 16 then some .one else if f = 18 then some .one else if f = 17 then some .one else none
noncomputable def cxQG (K A : Value → Nat → List Value → Prop) : SX.Cx := { P := Tryd.prog, R := RQG, shp := shpQG, K := K, A := A }
theorem okQG (K A : Value → Nat → List Value → Prop) : (cxQG K A).Ok := by
  refine SX.Cx.ok_of (fun _ => rfl) ?_
  intro K f xs v W hR hrd hKf
  rcases hR with ⟨rfl, hL, rfl, rfl⟩ | ⟨rfl, u, ls, rfl, hL, hb, rfl⟩ | ⟨rfl, u, ls, rfl, hL, hb, hk, rfl⟩ | ⟨rfl, y, z, rfl, hy, hz, rfl⟩ | ⟨rfl, u1, u2, la, lb, rfl, hL, hb, hb2, hk, hk2, rfl⟩
  · exact (sane_any W (laid_of hL hKf)).mono fun e w' h => SX.plainOk rfl h
  · obtain ⟨A, n, c, rfl, hr, hc, hln⟩ := lk_arg (hrd ⟨u, 35, lkL ls⟩ (by simp))
    exact (rfew_any ls A n c W hr hc (by omega) (laid_of hL hKf)).mono fun e w' h => SX.plainOk rfl h
  · obtain ⟨A, n, c, rfl, hr, hc, hln⟩ := lk_arg (hrd ⟨u, 35, lkL ls⟩ (by simp))
    exact (check_any ls A n c W hr hc (by omega) (fun z hz => (hk z hz).1.rd hKf) (fun z hz => (hk z hz).2) (laid_of hL hKf)).mono fun e w' h => SX.plainOk rfl h
  · exact (rsl_any y z W (hy.rd hKf) (hz.rd hKf)).mono fun e w' h => SX.plainOk rfl h
  obtain ⟨A, n, c, rfl, hr, hc, hln⟩ := lk_arg (hrd ⟨u1, 35, lkL la⟩ (by simp))
  obtain ⟨B, m, d, rfl, hr2, hc2, hlm⟩ := lk_arg (hrd ⟨u2, 35, lkL lb⟩ (by simp))
  exact (clash_any la A n c lb B m d W hr hc (by omega) (fun z hz => (hk z hz).1.rd hKf) (fun z hz => (hk z hz).2) hr2 hc2 (by omega) (fun z hz => (hk2 z hz).1.rd hKf) (fun z hz => (hk2 z hz).2) (laid_of hL hKf)).mono fun e w' h => SX.plainOk rfl h
def KC (A : Option Addr) (n c : Nat) (ls : List Lk) (x : Lk) (s : Value) (z : Nat) (xs : List Value) : Prop := KL A n c ls s z xs ∨ (s = x.hdr ∧ z = 1 ∧ xs = (sb x.tx).flatMap c8)
theorem KC_laid (A : Option Addr) (n c : Nat) (ls : List Lk) (x : Lk) : LaidK (KC A n c ls x) := ⟨.inl (KL_laid A n c ls).1, .inl (KL_laid A n c ls).2⟩
theorem take_all {P : Lk → Prop} {ls : List Lk} {k : Nat} (h : ∀ z ∈ ls, P z) : ∀ z ∈ ls.take k, P z := fun z hz => h z (List.mem_of_mem_take hz)
theorem set_all {P : Lk → Prop} {ls : List Lk} {k : Nat} {x : Lk} (h : ∀ z ∈ ls, P z) (hx : P x) : ∀ z ∈ ls.set k x, P z := fun z hz => by
  rcases List.mem_or_eq_of_mem_set hz with h1 | rfl
  · exact h z h1
  exact hx
theorem lk_take (L : List Lk) (i : Nat) : (lkL L).take (i * 35) = lkL (L.take i) := by
  induction L generalizing i with
  | nil => simp [lkL]
  | cons a l ih =>
    cases i with
    | zero => simp [lkL]
    | succ i =>
      show ((cellsLk a) ++ lkL l).take ((i + 1) * 35) = cellsLk a ++ lkL (l.take i)
      rw [← ih i, List.take_append, cellsLk_len, List.take_of_length_le (by rw [cellsLk_len]; omega), show (i + 1) * 35 - 35 = i * 35 by omega]
theorem slcx_lk {C : SX.Cx} {ρ : List Value} {α : Nat → SX.AV} {cc iv : SX.V} {L : List Lk} {i : Nat} (hc : SX.cellsV (cc.den ρ α) = lkL L) (hi : iv.den ρ α = .int .i64 (i : Int)) (hl : i ≤ L.length) : SX.Opq.rel C ρ α (.slcx 35 false true) [cc, iv] (.agg (lkL (L.take i)).toArray) := by
  refine ⟨0, i, L.length, none, some (.int .i64 (i : Int)), by simp [SX.denL, SX.optsV, hi], ?_, ?_⟩
  · rw [hc, lkL_len, Nat.mul_div_cancel _ (by decide)]
    simp [SX.boundsV, SX.bndV, hl]
  rw [hc]
  simp only [Nat.zero_mul, List.drop_zero, Nat.sub_zero]
  rw [lk_take]
theorem changed_law {ls : List Lk} {k : Nat} {z x : Lk} (h : chkE ls = 0) (hz : ls[k]? = some z) (hs : ¬ slE z x) (h2 : chkE (ls.set k x) = 0) (hk : k + 1 < ls.length) : clashB (ls.take (k + 1)) ((ls.set k x).take (k + 1)) = true := by
  obtain ⟨y, hy⟩ : ∃ y, ls[k + 1]? = some y := ⟨_, List.getElem?_eq_getElem hk⟩
  have h3 := (chkE_to h (k + 1) y hk hy).2.2.2.2.2
  have h4 := (chkE_to h2 (k + 1) y (by rw [List.length_set]; exact hk) (by rw [List.getElem?_set_ne (by omega)]; exact hy)).2.2.2.2.2
  have t1 := (text_last (ls := ls.take (k + 1)) (z := z) (by rw [List.length_take, show min (k + 1) ls.length - 1 = k by omega, List.getElem?_take_of_lt (by omega)]; exact hz)).2
  have t2 := (text_last (ls := (ls.set k x).take (k + 1)) (z := x) (by rw [List.length_take, List.length_set, show min (k + 1) ls.length - 1 = k by omega, List.getElem?_take_of_lt (by omega), List.getElem?_set_self (by omega)])).2
  unfold clashB
  exact decide_eq_true ⟨.inr fun e => hs (encLk_inj (by rw [← t1, ← t2]; exact e)), h3.symm.trans h4⟩
def tree_changed : SX.Tree :=
(.df (.call 8 []) [] .one
(.df .not [(.q 3)] .one
(.br 4 []
(.ret (.k (.bool false)) [none] [])
(.df (.call 9 [(.ext 35)]) [(.q 0)] .one
(.df .not [(.q 5)] .one
(.br 6 []
(.ret (.k (.bool true)) [none] [])
(.df (.len false) [(.q 0)] .one
(.df (.bin .eql 3) [(.q 7), (.i 0)] .one
(.br 8 []
(.ret (.k (.bool true)) [none] [])
(.df (.len false) [(.x 2 [34])] .one
(.df (.bin .gtr 3) [(.q 9), (.i 300)] .one
(.br 10 []
(.ret (.k (.bool true)) [none] [])
(.df (.call 16 [(.ext 35)]) [(.q 0)] .one
(.df (.bin .neq 26) [(.q 11), (.i 0)] .one
(.br 12 []
(.ret (.k (.bool true)) [none] [])
(.df (.conv .i64) [(.q 1)] .one
(.df (.len false) [(.q 0)] .one
(.df (.bin .rem 3) [(.q 13), (.q 14)] .one
(.df .bnd [(.q 0), (.q 15)] .one
(.df (.elems 35 0 35) [(.q 0), (.q 15)] (.ag 35)
(.df (.call 18 [.no, .no]) [(.a (SX.Y 17 0 35)), (.a (SX.Y 2 0 35))] .one
(.br 18 []
(.ret (.k (.bool true)) (List.replicate 7 none) [])
(.df (.app 35 72 (.ext 35)) [(.cat []), (.q 0)] .any
(.df (.rbnd 35) [(.cat [(.q 19)]), (.q 15)] .one
(.df (.rset 35 0) [(.cat [(.q 19)]), (.q 15), (.x 2 [0]), (.x 2 [1]), (.x 2 [2]), (.x 2 [3]), (.x 2 [4]), (.x 2 [5]), (.x 2 [6]), (.x 2 [7]), (.x 2 [8]), (.x 2 [9]), (.x 2 [10]), (.x 2 [11]), (.x 2 [12]), (.x 2 [13]), (.x 2 [14]), (.x 2 [15]), (.x 2 [16]), (.x 2 [17]), (.x 2 [18]), (.x 2 [19]), (.x 2 [20]), (.x 2 [21]), (.x 2 [22]), (.x 2 [23]), (.x 2 [24]), (.x 2 [25]), (.x 2 [26]), (.x 2 [27]), (.x 2 [28]), (.x 2 [29]), (.x 2 [30]), (.x 2 [31]), (.x 2 [32]), (.x 2 [33]), (.x 2 [34])] .any
(.df (.call 16 [(.row 35 [(.q 21)])]) [(.row 8)] .one
(.df (.bin .neq 26) [(.q 22), (.i 0)] .one
(.br 23 []
(.ret (.k (.bool true)) (List.replicate 9 none) [])
(.df (.len false) [(.q 0)] .one
(.df (.bin .sub 3) [(.q 24), (.i 1)] .one
(.df (.bin .eql 3) [(.q 15), (.q 25)] .one
(.br 26 []
(.ret (.k (.bool true)) (List.replicate 9 none) [])
(.df (.bin .add 3) [(.q 15), (.i 1)] .one
(.df (.slc false 35 false true false) [(.q 0), (.q 27)] .one
(.df (.bin .add 3) [(.q 15), (.i 1)] .one
(.df (.slcx 35 false true) [(.cat [(.q 21)]), (.q 29)] .any
(.df (.call 17 [(.ext 35), (.row 35 [(.q 30)])]) [(.q 28), (.row 16)] .one
(.ret (.q 31) (List.replicate 19 none) []))))))))))))))))))))))))))))))))))))))
def args_changed : List SX.V := [.x 0 [], .x 1 [], .a ((List.range 35).map fun j => .x 2 [j])]
set_option maxRecDepth 100000 in
theorem run_changed (K A : Value → Nat → List Value → Prop) : (SX.run (cxQG K A) ⟨fun f => true, [], 12, 100⟩ 100000 0 (SX.door 6 Tryd.f6 args_changed [.one, .one, .ag 35]) [.code (Tryd.f6.body.getD .skip), .top Tryd.f6]).strip = tree_changed := by kernel_rfl
set_option maxRecDepth 100000 in
set_option maxHeartbeats 4000000 in
theorem changed_any (ls : List Lk) (A : Option Addr) (n c : Nat) (tn : Nat) (x : Lk) (w : World) (hr : Rd w 35 A n (lkL ls)) (hc : n ≤ c) (hn : n ≤ 9223372036854775807) (hd : ∀ z ∈ ls, z.rd w) (hnum : ∀ z ∈ ls, z.num) (hlaid : Laid w) (htn : tn ≤ 255) (hx : x.rd w) (hnx : x.num) : Calls Tryd.prog 6 #[.slice A n c, .int .u8 (tn : Int), valLk x] w fun e w' => e = .returned (.bool true) ∧ Below w.heap.size w w' := by
  refine SX.calls_of_run (C := cxQG (KC A n c ls x) (fun _ _ _ => False)) (G := ⟨fun f => true, [], 12, 100⟩) (args := args_changed) (sh := [.one, .one, .ag 35]) (ρ := [.slice A n c, .int .u8 (tn : Int), valLk x]) 100000 tree_changed (okQG _ _) Tryd.func6 rfl (run_changed _ _) (by kernel_rfl) (by kernel_rfl) (by kernel_rfl) ?_ ?_
  · rintro W hW s sz cells (h | ⟨rfl, rfl, rfl⟩)
    · exact KL_rd hW hr hd hlaid s sz cells h
    exact ⟨hx.1.same0 hW, hx.2⟩
  have hA := SX.rd_some hr
  have hlc : (lkL ls).length = n * 35 := hr.1
  have hln : ls.length = n := by rw [lkL_len] at hlc; omega
  unfold tree_changed
  refine SX.E (.bool true) (fun α => ⟨[], trivial, .inl ⟨rfl, KC_laid _ _ _ _ _, rfl, rfl⟩, SX.noAli rfl⟩) ?_
  refine SX.D (.bool (!(true))) ?_
  refine SX.B (!(true)) (fun h4 => absurd h4 (by decide)) (fun h4 => ?_)
  try simp only [NRM] at h4
  refine SX.E (.bool (fewB ls)) (fun α => ⟨[⟨.slice A n c, 35, lkL ls⟩], ⟨by kernel_rfl, by kernel_rfl, .inl (.inl (SX.SubK.full hlc hc)), trivial⟩, .inr (.inl ⟨rfl, _, ls, rfl, KC_laid _ _ _ _ _, by omega, rfl⟩), SX.noAli rfl⟩) ?_
  refine SX.D (.bool (!(fewB ls))) ?_
  refine SX.B (!(fewB ls)) (fun h6 => ?_) (fun h6 => ?_)
  · try simp only [NRM] at h6
    exact SX.F (.bool true) (rfl)
  try simp only [NRM] at h6
  refine SX.D (.int .i64 (((n : Nat) : Int))) ?_
  refine SX.D (.bool ((((n : Nat) : Int) : Int) == 0)) ?_
  refine SX.B ((((n : Nat) : Int) : Int) == 0) (fun h8 => ?_) (fun h8 => ?_)
  · try simp only [NRM] at h8
    exact SX.F (.bool true) (rfl)
  try simp only [NRM] at h8
  refine SX.D (.int .i64 (((x.n : Nat) : Int))) ?_
  refine SX.D (.bool (decide (((x.n : Nat) : Int) > 300))) ?_
  refine SX.B (decide (((x.n : Nat) : Int) > 300)) (fun h10 => ?_) (fun h10 => ?_)
  · try simp only [NRM] at h10
    exact SX.F (.bool true) (rfl)
  try simp only [NRM] at h10
  have hfit := few_fit (by simpa using h6) hd hnum
  have hn16 : n ≤ 16 := by have h0 := (fewB_iff.1 (by simpa using h6 : fewB ls = true)).1; omega
  have hxn : x.n ≤ 300 := by (try simp at h10); omega
  have hfx : x.fit := ⟨hnx.1, hnx.2, by have h0 : ((sb x.tx).flatMap c8).length = x.n * 1 := (lk_bytes hx).1.1; rw [SX.flat_len c8_len, sb_len] at h0; omega⟩
  have hn0 : 0 < n := by (try simp at h8); omega
  refine SX.E (.int .i64 ((chkE ls))) (fun α => ⟨[⟨.slice A n c, 35, lkL ls⟩], ⟨by kernel_rfl, by kernel_rfl, .inl (.inl (SX.SubK.full hlc hc)), trivial⟩, .inr (.inr (.inl ⟨rfl, _, ls, rfl, KC_laid _ _ _ _ _, by omega, fun y hy => ⟨.inl (.inl (KL_data hy)), hfit y hy⟩, rfl⟩)), SX.noAli rfl⟩) ?_
  refine SX.D (.bool (((chkE ls) : Int) != 0)) ?_
  refine SX.B (((chkE ls) : Int) != 0) (fun h12 => ?_) (fun h12 => ?_)
  · try simp only [NRM] at h12
    exact SX.F (.bool true) (rfl)
  try simp only [NRM] at h12
  refine SX.E (.int .i64 ((tn : Int))) (fun α => SX.W ((tn : Int))) ?_
  refine SX.D (.int .i64 (((n : Nat) : Int))) ?_
  obtain ⟨k, hk⟩ : ∃ k, k = tn % n := ⟨_, rfl⟩
  have hkn : k < n := by rw [hk]; exact Nat.mod_lt _ hn0
  refine SX.E (.int .i64 (((k : Nat) : Int))) (fun α => Eq.trans (b := SX.binV .rem (.int .i64 (tn : Int)) (.int .i64 (n : Int))) (by kernel_rfl) (by rw [hk]; exact SX.rem_nat (by omega))) ?_
  obtain ⟨z, hz⟩ : ∃ z, ls[k]? = some z := ⟨_, List.getElem?_eq_getElem (by omega)⟩
  have hzm := List.mem_of_getElem? hz
  refine SX.E (.bool true) (fun α => SX.extBnd (A := A) (n := n) (c := c) (j := k) hA (by kernel_rfl) (by kernel_rfl) (by omega)) ?_
  refine SX.E (.agg (cellsLk z).toArray) (fun α => SX.extElems (f := cellsLk) (l := ls) (A := A) (n := n) (c := c) (j := k) (z := z) (fun _ => rfl) hA (by kernel_rfl) (by kernel_rfl) (by omega) (.inl (.inl (SX.SubK.full hlc hc))) hz) ?_
  refine SX.E (.bool (decide (slE z x))) (fun α => ⟨[⟨valLk z, 0, []⟩, ⟨valLk x, 0, []⟩], ⟨by kernel_rfl, by kernel_rfl, by kernel_rfl, by kernel_rfl, trivial⟩, .inr (.inr (.inr (.inl ⟨rfl, z, x, rfl, .inl (.inl (KL_data hzm)), .inl (.inr ⟨rfl, rfl, rfl⟩), rfl⟩))), SX.noAli rfl⟩) ?_
  refine SX.B (decide (slE z x)) (fun h18 => ?_) (fun h18 => ?_)
  · try simp only [NRM] at h18
    exact SX.F (.bool true) (rfl)
  try simp only [NRM] at h18
  refine SX.VC_df (Value.agg ((ls).flatMap cellsLk).toArray) (fun α => SX.app_rel (f := cellsLk) (l1 := []) (l2 := ls) cellsLk_len cellsLk_one (by decide) (by kernel_rfl) (SX.src_ext (.inl (.inl (SX.SubK.full hlc hc)))) (by simp only [List.length_nil]; omega) (by simp only [List.length_nil]; omega)) (rfl) ?_
  refine SX.E (.bool true) (fun α => SX.row_bnd (f := cellsLk) (l := ls) (k := k) (fun _ => rfl) (by decide) (SX.cat1 (by kernel_rfl)) (by kernel_rfl) (by omega)) ?_
  refine SX.VC_df (Value.agg ((ls.set k x).flatMap cellsLk).toArray) (fun α => SX.row_set (f := cellsLk) (l := ls) (k := k) (z := x) (fun _ => rfl) (by decide) (SX.cat1 (by kernel_rfl)) (by kernel_rfl) (by omega) (by kernel_rfl)) (rfl) ?_
  refine SX.E (.int .i64 ((chkE (ls.set k x)))) (fun α => ⟨[⟨(α 8).h, 35, lkL (ls.set k x)⟩], ⟨Eq.trans (b := (⟨(α 8).h, 35, [Value.agg (lkL (ls.set k x)).toArray].flatMap SX.cellsV⟩ : SX.Arg)) (by simp [SX.cellsV]) (by kernel_rfl), trivial⟩, .inr (.inr (.inl ⟨rfl, _, (ls.set k x), rfl, KC_laid _ _ _ _ _, by rw [List.length_set]; omega, set_all (fun y hy => ⟨.inl (.inl (KL_data hy)), hfit y hy⟩) ⟨.inl (.inr ⟨rfl, rfl, rfl⟩), hfx⟩, rfl⟩)), SX.noAli rfl⟩) ?_
  refine SX.D (.bool (((chkE (ls.set k x)) : Int) != 0)) ?_
  refine SX.B (((chkE (ls.set k x)) : Int) != 0) (fun h23 => ?_) (fun h23 => ?_)
  · try simp only [NRM] at h23
    exact SX.F (.bool true) (rfl)
  try simp only [NRM] at h23
  refine SX.D (.int .i64 (((n : Nat) : Int))) ?_
  refine SX.E (.int .i64 (((n - 1 : Nat) : Int))) (fun α => Eq.trans (b := some (.int .i64 (IntKind.i64.wrap ((n : Nat) - 1)))) (by kernel_rfl) (by rw [show ((n - 1 : Nat) : Int) = ((n : Nat) : Int) - 1 by omega, wrap_i64 (by omega) (by omega)])) ?_
  refine SX.D (.bool ((((k : Nat) : Int) : Int) == ((n - 1 : Nat) : Int))) ?_
  refine SX.B ((((k : Nat) : Int) : Int) == ((n - 1 : Nat) : Int)) (fun h26 => ?_) (fun h26 => ?_)
  · try simp only [NRM] at h26
    exact SX.F (.bool true) (rfl)
  try simp only [NRM] at h26
  have hk1 : k + 1 < n := by (try simp at h26); omega
  refine SX.E (.int .i64 (((k + 1 : Nat) : Int))) (fun α => SX.W1 k) ?_
  refine SX.E ((SX.subS A 35 0 (k + 1) c)) (fun α => SX.slc_hi (A := A) (n := n) (c := c) (k := (k + 1)) (by kernel_rfl) (by kernel_rfl) (by omega)) ?_
  refine SX.E (.int .i64 (((k + 1 : Nat) : Int))) (fun α => SX.W1 k) ?_
  refine SX.VC_df (Value.agg (lkL ((ls.set k x).take (k + 1))).toArray) (fun α => slcx_lk (L := (ls.set k x)) (i := k + 1) (SX.cat1 (by kernel_rfl)) (by kernel_rfl) (by rw [List.length_set]; omega)) (rfl) ?_
  refine SX.E (.bool (clashB (ls.take (k + 1)) ((ls.set k x).take (k + 1)))) (fun α => ⟨[⟨SX.subS A 35 0 (k + 1) c, 35, lkL (ls.take (k + 1))⟩, ⟨(α 16).h, 35, lkL ((ls.set k x).take (k + 1))⟩], ⟨by kernel_rfl, by kernel_rfl, K_of (y := ⟨SX.subS A 35 0 (k + 1) c, 35, lkL (ls.take (k + 1))⟩) (by kernel_rfl) (.inl (KL_take (by omega) hc)), Eq.trans (b := (⟨(α 16).h, 35, [Value.agg (lkL ((ls.set k x).take (k + 1))).toArray].flatMap SX.cellsV⟩ : SX.Arg)) (by simp [SX.cellsV]) (by kernel_rfl), trivial⟩, .inr (.inr (.inr (.inr (⟨rfl, _, _, (ls.take (k + 1)), ((ls.set k x).take (k + 1)), rfl, KC_laid _ _ _ _ _, by rw [List.length_take]; omega, by rw [List.length_take, List.length_set]; omega, take_all (fun y hy => ⟨.inl (.inl (KL_data hy)), hfit y hy⟩), take_all (set_all (fun y hy => ⟨.inl (.inl (KL_data hy)), hfit y hy⟩) ⟨.inl (.inr ⟨rfl, rfl, rfl⟩), hfx⟩), rfl⟩)))), SX.noAli rfl⟩) ?_
  exact SX.F (.bool (clashB (ls.take (k + 1)) ((ls.set k x).take (k + 1)))) (by rw [changed_law (by simpa using h12) hz (by simpa using h18) (by simpa using h23) (by omega)])
theorem changed_walk (ls : List Lk) (A : Option Addr) (n c : Nat) (a : Int) (x : Lk) (w : World) (hr : Rd w 35 A n (lkL ls)) (hc : n ≤ c) (hn : n ≤ 9223372036854775807) (hd : ∀ z ∈ ls, z.rd w) (hnum : ∀ z ∈ ls, z.num) (hlaid : Laid w) (ha : (Lit.int .u8 a).wf = true) (hx : x.rd w) (hnx : x.num) : Calls Tryd.prog 6 #[.slice A n c, .int .u8 a, valLk x] w fun e w' => e = .returned (.bool true) ∧ Below w.heap.size w w' := by
  have hb := bounds_u8 ha
  obtain ⟨tn, rfl⟩ : ∃ tn : Nat, a = (tn : Int) := ⟨a.toNat, by omega⟩
  exact changed_any ls A n c tn x w hr hc hn hd hnum hlaid (by omega) hx hnx
end Go.Proofs.YtdamlaegboiokaaDoor
namespace Go.Proofs.YtdamlaegboiokaaDoor.chainChanged
open Go Go.ChangeShapes Go.WideShapes Go.ChangeAt Go.RowKit
set_option maxRecDepth 100000 in
theorem lifted (os : Os) (started : os.Started) (H : Type) (enc : TypeId × Value → H) :
    ReturnsInHanded {} Tryd.checked os 6 .any (fun w args => (Rows.chainChangedSpec.pre enc Tryd.prog Tryd.f6 [] false w args ∧ laidMetH Tryd.prog laidL w) ∧ sizedMet enc Tryd.prog Tryd.f6 (OpenSpec.ofChange Rows.chainChangedSpec) false w args)
      (Rows.chainChangedSpec.post enc Tryd.prog Tryd.f6 false true false false) := by
  refine returnsInHanded_of_change_and (C := Tryd.checked) (X := fun w _ => laidMetH Tryd.prog laidL w) (fun _ _ _ hh h => h.of_heap hh) ownK started (by kernel_rfl) Tryd.func6
    (ChangeSpec.witness_shaped (enc := enc) (C := Tryd.checked) (os := os) (X := fun w _ => laidMetH Tryd.prog laidL w) false (World.doorLaid Tryd.prog 400 os) #[.slice none 0 0, .int .u8 0, .agg (([.int .i64 0, .int .i64 0] : List Value) ++ (List.replicate 32 (.int .u8 0) : List Value) ++ ([.slice none 0 0] : List Value)).toArray] 8 rfl (World.shaped_of_RefB (by kernel_rfl) (by kernel_rfl)) (by kernel_rfl) (by kernel_rfl) (by kernel_rfl) (door_met os _)) ?_
  intro W base args ds gs before hval0 hW _ _ hL _
  have hval : ∀ (j : Nat) t v, Tryd.f6.params[j]? = some t → args[j]? = some v → Value.okWide Tryd.prog W .any base t v := hval0
  have hW' := hW
  obtain ⟨p, q, hA0, hV, rfl, hfz, hnd⟩ := hW
  have hA : DataW.TrodAll enc Tryd.prog W 0 (fun _ => true) true Tryd.f6.params.toList args.toList ds p := hA0
  rw [Tryd.params6] at hA hval
  obtain ⟨v0, vs0, d0, ds0, p0, q0, hargs, rfl, rfl, h0, r0⟩ := trodAll_cons hA
  obtain ⟨v1, vs1, d1, ds1, p1, q1, rfl, rfl, rfl, h1, r1⟩ := trodAll_cons r0
  obtain ⟨v2, vs2, d2, ds2, p2, q2, rfl, rfl, rfl, h2, r2⟩ := trodAll_cons r1
  obtain ⟨rfl, rfl, rfl⟩ := trodAll_nil r2
  obtain rfl : args = #[v0, v1, v2] := by cases args; simp_all
  obtain ⟨rfl, rfl⟩ := trodVars_none hV
  obtain ⟨A0, n0, c0, l0, e0, hr0, hc0, hm0, hq0⟩ := open_links h0
  obtain rfl := v_slice Tryd.underlying22 (hval 0 22 v0 rfl rfl) e0
  rw [max_eq] at hm0
  obtain ⟨a1, rfl, rfl, rfl, w1⟩ := open_int Tryd.underlying5 (hval 1 5 v1 rfl rfl) h1
  obtain ⟨z2, e2, hq2⟩ := open_link h2
  obtain rfl := v_link (hval 2 37 v2 rfl rfl) e2
  clear hA0 hval0
  have hlaid := laid_world hL
  refine (changed_walk l0 A0 n0 c0 a1 z2 W hr0 hc0 (by omega) (fun z hz => (hq0 z hz).1) (fun z hz => (hq0 z hz).2) hlaid w1 hq2.1 hq2.2).mono fun e W' ⟨he, hb⟩ => ?_
  subst he
  exact ⟨_, rfl, law_post laidOut (by kernel_rfl) rfl hW' hb rfl rfl Tryd.underlying4⟩
theorem over : Rows.chainChangedRow.holds Tryd.pinned (OpenSpec.ofChange Rows.chainChangedSpec) :=
  OpenClaim.holds_of_wide 6 Tryd.f6 rfl rfl rfl rfl rfl rfl rfl ⟨rfl, rfl, rfl, rfl, rfl⟩ rfl rfl rfl rfl rfl (by kernel_rfl) Tryd.func6 (by kernel_rfl)
    (of_decide_eq_true (by kernel_rfl)) (by unfold Func.isWrapper; first | (rw [if_pos (by decide +kernel)]; kernel_rfl) | (rw [if_neg (by decide +kernel)]; exact ⟨rfl, rfl⟩))
    (fun os started H enc _ => lifted os started H enc)
theorem proved : Rows.ChainChangedCardSaid :=
  Claim7.holds_tied_plain_at .later [] [.data, .data] true (true, "521b2ca88230f32fb39facb778099429df77589fc8ba99baccf153ac95919c22") false
    over (fun _ h => by cases h) (by kernel_rfl) (fun _ h => by cases h) chainChanged_row_tie rfl ⟨rfl, rfl⟩ (by kernel_rfl) rfl
    (fun f fn hf hfn => by
      obtain rfl : f = 6 := Option.some.inj ((show Tryd.prog.funcNamed "kinesphere/kinespherelaw08.ChainChanged" = some 6 by kernel_rfl).symm.trans hf) |>.symm
      obtain rfl : fn = Tryd.f6 := (Option.some.inj (Tryd.func6.symm.trans hfn)).symm
      exact ⟨by kernel_rfl, fun j t ht => by
        rw [Tryd.params6] at ht
        have hm : t ∈ [22, 5, 37] := by simpa using Array.mem_of_getElem? ht
        have hall : ([22, 5, 37].all fun u => !Tryd.prog.wantsStandIn u) = true := by kernel_rfl
        exact (show Tryd.prog.wantsStandIn t = false by simpa using List.all_eq_true.1 hall t hm)⟩)
    (by kernel_rfl)
#print axioms proved
end Go.Proofs.YtdamlaegboiokaaDoor.chainChanged
