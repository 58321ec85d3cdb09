/-
  The statement 'ChainParts' as its tied card: for every input the law returns true, and each argument reads as it read before; the listed variables are as the program's text lays them. No other condition.
-/
import Derived.Test.YtdamlaegboiokaaDoorPA6
import Derived.Test.YtdamlaegboiokaaDoorPA1
import Derived.LaidMore
import Derived.Stop.Joined
import Derived.Stop.LaidErr
import Derived.Lib.LaidTab
import Derived.ChangeSlices
import Derived.MakeChecks
import Derived.DataElems
import Derived.Test.YtdamlaegboiokaaDoorCards
import Derived.Test.YtdamlaegboiokaaDoorTie
import Derived.SevenTiedAt
set_option linter.unusedSimpArgs false
set_option linter.unusedVariables false
namespace Go.Proofs.YtdamlaegboiokaaDoor
open Go Go.RowKit
def clashP (a b : List Lk) : Prop := (textT a ≠ textT b ∨ textB a ≠ textB b) ∧ dgL (headF a) = dgL (headF b)
noncomputable instance (a b : List Lk) : Decidable (clashP a b) := Classical.propDecidable _
noncomputable def clashB (a b : List Lk) : Bool := decide (clashP a b)
theorem clash_ne {a b : List Lk} (h : textT a ≠ textT b ∨ textB a ≠ textB b) : clashB a b = decide (dgL (headF a) = dgL (headF b)) := by
  unfold clashB
  by_cases e : dgL (headF a) = dgL (headF b)
  · rw [decide_eq_true e, decide_eq_true ⟨h, e⟩]
  rw [decide_eq_false e, decide_eq_false fun k => e k.2]
theorem clash_eq {a b : List Lk} (h : textT a = textT b) (h2 : textB a = textB b) : clashB a b = false := by
  unfold clashB
  exact decide_eq_false fun k => k.1.elim (fun e => e h) fun e => e h2
theorem b2s_row {C : SX.Cx} {ρ : List Value} {α : Nat → SX.AV} {c : SX.V} {l : List W8} (h : SX.cellsV (c.den ρ α) = l.flatMap c8) : SX.Opq.rel C ρ α .b2s [c] (.string (bt l)) := by
  refine ⟨l.map UInt8.ofBitVec, ?_, rfl⟩
  rw [h, List.map_map]
  clear h
  induction l with
  | nil => rfl
  | cons a l ih => rw [List.flatMap_cons, ih]; rfl
theorem cat1p {ρ : List Value} {α : Nat → SX.AV} {j : Nat} {p : List Nat} {l : List Value} (h : p.foldl SX.comp (ρ.getD j undef) = .agg l.toArray) : SX.cellsV ((SX.V.cat [.x j p]).den ρ α) = l := by
  simp only [SX.V.den, SX.denL, h, List.flatMap_cons, List.flatMap_nil, SX.cellsV, List.append_nil]
theorem K_of {C : SX.Cx} {v : Value} {y : SX.Arg} (hv : v = y.v) (h : C.K y.v y.sz y.cells) : C.K v y.sz y.cells := by subst hv; exact h
theorem bt_inj {x y : List W8} (h : bt x = bt y) : x = y := by rw [← sb_bt x, ← sb_bt y, h]
def Lk.num (z : Lk) : Prop := (-9223372036854775808 ≤ z.node ∧ z.node ≤ 9223372036854775807) ∧ (-9223372036854775808 ≤ z.no ∧ z.no ≤ 9223372036854775807)
theorem few_fit {w : World} {ls : List Lk} (h : fewB ls = true) (hd : ∀ z ∈ ls, z.rd w) (hn : ∀ z ∈ ls, z.num) : ∀ z ∈ ls, z.fit := fun z hz => by
  refine ⟨(hn z hz).1, (hn z hz).2, ?_⟩
  have h1 := (fewB_iff.1 h).2 z hz
  have h2 : ((sb z.tx).flatMap c8).length = z.n * 1 := (lk_bytes (hd z hz)).1.1
  rw [SX.flat_len c8_len, sb_len] at h2
  omega
theorem slE_symm {y z : Lk} (h : slE y z) : slE z y := ⟨h.1.symm, h.2.1.symm, h.2.2.1.symm, h.2.2.2.symm⟩
theorem diffE_symm : ∀ a b : List Lk, diffE a b = diffE b a
  | [], [] => rfl
  | [], _ :: _ => rfl
  | _ :: _, [] => rfl
  | y :: a, z :: b => by
    by_cases h : slE y z
    · simp only [diffE, if_pos h, if_pos (slE_symm h), diffE_symm a b]
    simp only [diffE, if_neg h, if_neg fun k => h (slE_symm k)]
theorem diffE_some : ∀ {a b : List Lk} {i : Nat}, diffE a b = some i → ∃ y z, a[i]? = some y ∧ b[i]? = some z ∧ sameTo a b i ∧ ¬ slE y z
  | [], _, _, h => by cases h
  | _ :: _, [], _, h => by cases h
  | y :: a, z :: b, i, h => by
    by_cases hs : slE y z
    · simp only [diffE, if_pos hs, Option.map_eq_some_iff] at h
      obtain ⟨j, hj, rfl⟩ := h
      obtain ⟨p, q, h1, h2, h3, h4⟩ := diffE_some hj
      refine ⟨p, q, h1, h2, fun k u v hk hu hv => ?_, h4⟩
      cases k with
      | zero => cases hu; cases hv; exact hs
      | succ k => exact h3 k u v (by omega) hu hv
    simp only [diffE, if_neg hs] at h
    cases h
    exact ⟨y, z, rfl, rfl, sameTo_zero _ _, hs⟩
theorem diffE_nil : ∀ {a b : List Lk}, diffE a b = none → sameTo a b (min a.length b.length)
  | [], _, _ => fun j y z hj => by simp at hj
  | _ :: _, [], _ => fun j y z hj => by simp at hj
  | y :: a, z :: b, h => by
    by_cases hs : slE y z
    · simp only [diffE, if_pos hs, Option.map_eq_none_iff] at h
      have h3 := diffE_nil h
      intro k u v hk hu hv
      cases k with
      | zero => cases hu; cases hv; exact hs
      | succ k => exact h3 k u v (by simp only [List.length_cons] at hk; omega) hu hv
    simp only [diffE, if_neg hs] at h; cases h
theorem part_all (a b : List Lk) : ∃ (i : Nat) (o : Bool) (E E' : Int), partE a b = ((i : Int), o, E) ∧ partE b a = ((i : Int), o, E') ∧ (E ≠ 0 → i = 0 ∧ o = false ∧ E' ≠ 0) ∧ (E = 0 → E' = 0 ∧ (o = false → i = 0 ∧ sameTo a b (min a.length b.length)) ∧ (o = true → ∃ y z, a[i]? = some y ∧ b[i]? = some z ∧ sameTo a b i ∧ ¬ slE y z)) := by
  by_cases h : chkE a = 0
  · by_cases h2 : chkE b = 0
    · by_cases h3 : hdsD a b
      · exact ⟨0, false, 80, 80, partE_d h h2 h3, partE_d h2 h (by obtain ⟨y, z, k1, k2, k3⟩ := h3; exact ⟨z, y, k2, k1, fun e => k3 e.symm⟩), fun _ => ⟨rfl, rfl, by decide⟩, fun e => absurd e (by decide)⟩
      have h4 : ¬ hdsD b a := fun ⟨y, z, k1, k2, k3⟩ => h3 ⟨z, y, k2, k1, fun e => k3 e.symm⟩
      cases hd : diffE a b with
      | none => exact ⟨0, false, 0, 0, partE_no h h2 h3 hd, partE_no h2 h h4 (by rw [diffE_symm]; exact hd), fun e => absurd rfl e, fun _ => ⟨rfl, fun _ => ⟨rfl, diffE_nil hd⟩, fun e => by cases e⟩⟩
      | some i => exact ⟨i, true, 0, 0, partE_at h h2 h3 hd, partE_at h2 h h4 (by rw [diffE_symm]; exact hd), fun e => absurd rfl e, fun _ => ⟨rfl, fun e => (by cases e), fun _ => diffE_some hd⟩⟩
    exact ⟨0, false, chkE b, chkE b, partE_b h h2, partE_a h2, fun _ => ⟨rfl, rfl, h2⟩, fun e => absurd e h2⟩
  by_cases h2 : chkE b = 0
  · exact ⟨0, false, chkE a, chkE a, partE_a h, partE_b h2 h, fun _ => ⟨rfl, rfl, h⟩, fun e => absurd e h⟩
  exact ⟨0, false, chkE a, chkE b, partE_a h, partE_a h2, fun _ => ⟨rfl, rfl, h2⟩, fun e => absurd e h⟩
theorem same_take {a b : List Lk} {k : Nat} (h1 : k ≤ a.length) (h2 : k ≤ b.length) (h : sameTo a b k) : sameB (a.take k) (b.take k) = true := by
  refine sameB_yes ⟨by rw [List.length_take, List.length_take]; omega, fun j y z hj hy hz => ?_⟩
  rw [List.length_take] at hj
  rw [List.getElem?_take_of_lt (by omega)] at hy hz
  exact h j y z (by omega) hy hz
def RQC (K : Value → Nat → List Value → Prop) (f : FuncId) (xs : List SX.Arg) (v : Value) : Prop :=
  (f = 31 ∧ ∃ (u : Value) (ls : List Lk), xs = [⟨u, 35, lkL ls⟩] ∧ LaidK K ∧ ls.length ≤ 4611686018427387904 ∧ (∀ z ∈ ls, z.kn K ∧ z.fit) ∧ v = .tuple #[.string (textT ls), .agg ((textB ls).flatMap c8).toArray]) ∨
  (f = 15 ∧ ∃ (u : Value) (ls : List Lk), xs = [⟨u, 35, lkL ls⟩] ∧ LaidK K ∧ ls.length ≤ 4611686018427387904 ∧ (∀ z ∈ ls, z.kn K ∧ z.fit) ∧ v = dgV (headF ls))
def shpQC : FuncId → Option SX.Sh := fun f => if f = 31 then some (.tp [.one, .sl 1]) else if f = 15 then some (.ag 32) else none
noncomputable def cxQC (K A : Value → Nat → List Value → Prop) : SX.Cx := { P := Tryd.prog, R := RQC, shp := shpQC, K := K, A := A, trm := true }
theorem okQC (K A : Value → Nat → List Value → Prop) : (cxQC K A).Ok := by
  refine SX.Cx.ok_of (fun _ => rfl) ?_
  intro K f xs v W hR hrd hKf
  rcases hR with ⟨rfl, u, ls, rfl, hL, hb, hk, rfl⟩ | ⟨rfl, u, ls, rfl, hL, hb, hk, rfl⟩
  · obtain ⟨A, n, c, rfl, hr, hc, hln⟩ := lk_arg (hrd ⟨u, 35, lkL ls⟩ (by simp))
    exact (rtext_any ls A n c W hr hc (by omega) (fun z hz => (hk z hz).1.rd hKf) (fun z hz => (hk z hz).2) (laid_of hL hKf)).mono fun e w' h => SX.SlRet.ok10 rfl h
  obtain ⟨A, n, c, rfl, hr, hc, hln⟩ := lk_arg (hrd ⟨u, 35, lkL ls⟩ (by simp))
  exact (head_any ls A n c W hr hc (by omega) (fun z hz => (hk z hz).1.rd hKf) (fun z hz => (hk z hz).2) (laid_of hL hKf)).mono fun e w' h => SX.plainOk rfl h
def tree_clash : SX.Tree :=
(.df (.call 31 [(.ext 35)]) [(.q 0)] (.tp [.one, (.sl 1)])
(.df (.call 31 [(.ext 35)]) [(.q 1)] (.tp [.one, (.sl 1)])
(.df (.bin .neq 9) [(.x 2 [0]), (.x 3 [0])] .one
(.br 4 []
(.df (.call 15 [(.ext 35)]) [(.q 0)] (.ag 32)
(.df (.call 15 [(.ext 35)]) [(.q 1)] (.ag 32)
(.df (.eqr false 32 [(.i .u8), (.i .u8), (.i .u8), (.i .u8), (.i .u8), (.i .u8), (.i .u8), (.i .u8), (.i .u8), (.i .u8), (.i .u8), (.i .u8), (.i .u8), (.i .u8), (.i .u8), (.i .u8), (.i .u8), (.i .u8), (.i .u8), (.i .u8), (.i .u8), (.i .u8), (.i .u8), (.i .u8), (.i .u8), (.i .u8), (.i .u8), (.i .u8), (.i .u8), (.i .u8), (.i .u8), (.i .u8)]) (SX.Y 5 0 32 ++ SX.Y 6 0 32) .one
(.ret (.q 7) [] []))))
(.df .b2s [(.cat [(.x 2 [1])])] .one
(.df .b2s [(.cat [(.x 3 [1])])] .one
(.df (.bin .neq 9) [(.q 5), (.q 6)] .one
(.br 7 []
(.df (.call 15 [(.ext 35)]) [(.q 0)] (.ag 32)
(.df (.call 15 [(.ext 35)]) [(.q 1)] (.ag 32)
(.df (.eqr false 32 [(.i .u8), (.i .u8), (.i .u8), (.i .u8), (.i .u8), (.i .u8), (.i .u8), (.i .u8), (.i .u8), (.i .u8), (.i .u8), (.i .u8), (.i .u8), (.i .u8), (.i .u8), (.i .u8), (.i .u8), (.i .u8), (.i .u8), (.i .u8), (.i .u8), (.i .u8), (.i .u8), (.i .u8), (.i .u8), (.i .u8), (.i .u8), (.i .u8), (.i .u8), (.i .u8), (.i .u8), (.i .u8)]) (SX.Y 8 0 32 ++ SX.Y 9 0 32) .one
(.ret (.q 10) [] []))))
(.ret (.k (.bool false)) [] [])))))))))
def args_clash : List SX.V := [.x 0 [], .x 1 []]
set_option maxRecDepth 100000 in
theorem run_clash (K A : Value → Nat → List Value → Prop) : (SX.run (cxQC K A) ⟨fun f => true, [], 0, 100⟩ 100000 0 (SX.door 17 Tryd.f17 args_clash [.one, .one]) [.code (Tryd.f17.body.getD .skip), .top Tryd.f17]).strip = tree_clash := by kernel_rfl
set_option maxRecDepth 100000 in
set_option maxHeartbeats 4000000 in
theorem clash_any (la : List Lk) (A : Option Addr) (n c : Nat) (lb : List Lk) (B : Option Addr) (m d : Nat) (w : World) (hr : Rd w 35 A n (lkL la)) (hc : n ≤ c) (hn : n ≤ 4611686018427387904) (hd : ∀ z ∈ la, z.rd w) (hfit : ∀ z ∈ la, z.fit) (hr2 : Rd w 35 B m (lkL lb)) (hc2 : m ≤ d) (hn2 : m ≤ 4611686018427387904) (hd2 : ∀ z ∈ lb, z.rd w) (hfit2 : ∀ z ∈ lb, z.fit) (hlaid : Laid w) : Calls Tryd.prog 17 #[.slice A n c, .slice B m d] w fun e w' => e = .returned (.bool (clashB la lb)) ∧ Below w.heap.size w w' := by
  refine SX.calls_of_run (C := cxQC (K2 A n c la B m d lb) (fun _ _ _ => False)) (G := ⟨fun f => true, [], 0, 100⟩) (args := args_clash) (sh := [.one, .one]) (ρ := [.slice A n c, .slice B m d]) 100000 tree_clash (okQC _ _) Tryd.func17 rfl (run_clash _ _) (by kernel_rfl) (by kernel_rfl) (by kernel_rfl) ?_ ?_
  · rintro W hW s sz cells (h | h)
    · exact KL_rd hW hr hd hlaid s sz cells h
    exact KL_rd hW hr2 hd2 hlaid s sz cells h
  have hA := SX.rd_some hr
  have hlc : (lkL la).length = n * 35 := hr.1
  have hln : la.length = n := by rw [lkL_len] at hlc; omega
  have hB := SX.rd_some hr2
  have hlc2 : (lkL lb).length = m * 35 := hr2.1
  have hlm : lb.length = m := by rw [lkL_len] at hlc2; omega
  unfold tree_clash
  refine SX.VC_df (.tuple #[.string ((textT la)), Value.agg ((textB la).flatMap c8).toArray]) (fun α => ⟨[⟨.slice A n c, 35, lkL la⟩], ⟨by kernel_rfl, by kernel_rfl, .inl (.inl (SX.SubK.full hlc hc)), trivial⟩, .inl ⟨rfl, _, la, rfl, K2_laid _ _ _ _ _ _ _ _, by omega, fun y hy => ⟨.inl (.inl (KL_data hy)), hfit y hy⟩, rfl⟩, SX.noAli rfl⟩) ((fit01 _ rfl _)) ?_
  refine SX.VC_df (.tuple #[.string ((textT lb)), Value.agg ((textB lb).flatMap c8).toArray]) (fun α => ⟨[⟨.slice B m d, 35, lkL lb⟩], ⟨by kernel_rfl, by kernel_rfl, .inr (.inl (SX.SubK.full hlc2 hc2)), trivial⟩, .inl ⟨rfl, _, lb, rfl, K2_laid _ _ _ _ _ _ _ _, by omega, fun y hy => ⟨.inl (.inr (KL_data hy)), hfit2 y hy⟩, rfl⟩, SX.noAli rfl⟩) ((fit01 _ rfl _)) ?_
  refine SX.D (.bool (!decide ((textT la) = (textT lb)))) ?_
  refine SX.B (!decide ((textT la) = (textT lb))) (fun h4 => ?_) (fun h4 => ?_)
  · try simp only [NRM] at h4
    refine SX.VC_df (dgV (headF la)) (fun α => ⟨[⟨.slice A n c, 35, lkL la⟩], ⟨by kernel_rfl, by kernel_rfl, .inl (.inl (SX.SubK.full hlc hc)), trivial⟩, .inr (⟨rfl, _, la, rfl, K2_laid _ _ _ _ _ _ _ _, by omega, fun y hy => ⟨.inl (.inl (KL_data hy)), hfit y hy⟩, rfl⟩), SX.noAli rfl⟩) ((dgV_fit _)) ?_
    refine SX.VC_df (dgV (headF lb)) (fun α => ⟨[⟨.slice B m d, 35, lkL lb⟩], ⟨by kernel_rfl, by kernel_rfl, .inr (.inl (SX.SubK.full hlc2 hc2)), trivial⟩, .inr (⟨rfl, _, lb, rfl, K2_laid _ _ _ _ _ _ _ _, by omega, fun y hy => ⟨.inl (.inr (KL_data hy)), hfit2 y hy⟩, rfl⟩), SX.noAli rfl⟩) ((dgV_fit _)) ?_
    refine SX.E (.bool (false ^^ decide (dgL (headF la) = dgL (headF lb)))) (fun α => SX.eqr_rel (f := (fun l : List W8 => l.map w8)) w8_map_inj (y := dgL (headF la)) (z := dgL (headF lb)) (by kernel_rfl) (by kernel_rfl) (by kernel_rfl)) ?_
    exact SX.F (.bool (false ^^ decide (dgL (headF la) = dgL (headF lb)))) (by rw [clash_ne (.inl (by simpa using h4)), Bool.false_xor])
  try simp only [NRM] at h4
  refine SX.E (.string ((bt (textB la)))) (fun α => b2s_row (l := textB la) (cat1p (l := (textB la).flatMap c8) (by kernel_rfl))) ?_
  refine SX.E (.string ((bt (textB lb)))) (fun α => b2s_row (l := textB lb) (cat1p (l := (textB lb).flatMap c8) (by kernel_rfl))) ?_
  refine SX.D (.bool (!decide ((bt (textB la)) = (bt (textB lb))))) ?_
  refine SX.B (!decide ((bt (textB la)) = (bt (textB lb)))) (fun h7 => ?_) (fun h7 => ?_)
  · try simp only [NRM] at h7
    refine SX.VC_df (dgV (headF la)) (fun α => ⟨[⟨.slice A n c, 35, lkL la⟩], ⟨by kernel_rfl, by kernel_rfl, .inl (.inl (SX.SubK.full hlc hc)), trivial⟩, .inr (⟨rfl, _, la, rfl, K2_laid _ _ _ _ _ _ _ _, by omega, fun y hy => ⟨.inl (.inl (KL_data hy)), hfit y hy⟩, rfl⟩), SX.noAli rfl⟩) ((dgV_fit _)) ?_
    refine SX.VC_df (dgV (headF lb)) (fun α => ⟨[⟨.slice B m d, 35, lkL lb⟩], ⟨by kernel_rfl, by kernel_rfl, .inr (.inl (SX.SubK.full hlc2 hc2)), trivial⟩, .inr (⟨rfl, _, lb, rfl, K2_laid _ _ _ _ _ _ _ _, by omega, fun y hy => ⟨.inl (.inr (KL_data hy)), hfit2 y hy⟩, rfl⟩), SX.noAli rfl⟩) ((dgV_fit _)) ?_
    refine SX.E (.bool (false ^^ decide (dgL (headF la) = dgL (headF lb)))) (fun α => SX.eqr_rel (f := (fun l : List W8 => l.map w8)) w8_map_inj (y := dgL (headF la)) (z := dgL (headF lb)) (by kernel_rfl) (by kernel_rfl) (by kernel_rfl)) ?_
    exact SX.F (.bool (false ^^ decide (dgL (headF la) = dgL (headF lb)))) (by rw [clash_ne (.inr fun e => by rw [e] at h7; simp at h7), Bool.false_xor])
  try simp only [NRM] at h7
  exact SX.F (.bool false) (by rw [clash_eq (by simpa using h4) (bt_inj (by simpa using h7))])
def RQD (K : Value → Nat → List Value → Prop) (f : FuncId) (xs : List SX.Arg) (v : Value) : Prop :=
  (f = 8 ∧ LaidK K ∧ xs = [] ∧ v = .bool true) ∨
  (f = 9 ∧ ∃ (u : Value) (ls : List Lk), xs = [⟨u, 35, lkL ls⟩] ∧ LaidK K ∧ ls.length ≤ 9223372036854775807 ∧ v = .bool (fewB ls)) ∨
  (f = 12 ∧ ∃ (u1 u2 : Value) (la lb : List Lk), xs = [⟨u1, 35, lkL la⟩, ⟨u2, 35, lkL lb⟩] ∧ LaidK K ∧ la.length ≤ 4611686018427387904 ∧ lb.length ≤ 4611686018427387904 ∧ (∀ z ∈ la, z.kn K ∧ z.fit) ∧ (∀ z ∈ lb, z.kn K ∧ z.fit) ∧ v = .tuple #[.int .i64 (partE la lb).1, .bool (partE la lb).2.1, .int .i64 (partE la lb).2.2]) ∨
  (f = 14 ∧ ∃ (u1 u2 : Value) (la lb : List Lk), xs = [⟨u1, 35, lkL la⟩, ⟨u2, 35, lkL lb⟩] ∧ LaidK K ∧ la.length ≤ 4611686018427387904 ∧ lb.length ≤ 4611686018427387904 ∧ (∀ z ∈ la, z.kn K ∧ z.fit) ∧ (∀ z ∈ lb, z.kn K ∧ z.fit) ∧ v = .bool (sameB la lb)) ∨
  (f = 18 ∧ ∃ y z : Lk, xs = [⟨valLk y, 0, []⟩, ⟨valLk z, 0, []⟩] ∧ y.kn K ∧ z.kn K ∧ v = .bool (decide (slE y z))) ∨
  (f = 16 ∧ ∃ (u : Value) (ls : List Lk), xs = [⟨u, 35, lkL ls⟩] ∧ LaidK K ∧ ls.length ≤ 4611686018427387904 ∧ (∀ z ∈ ls, z.kn K ∧ z.fit) ∧ v = .int .i64 (chkE ls)) ∨
  (f = 15 ∧ ∃ (u : Value) (ls : List Lk), xs = [⟨u, 35, lkL ls⟩] ∧ LaidK K ∧ ls.length ≤ 4611686018427387904 ∧ (∀ z ∈ ls, z.kn K ∧ z.fit) ∧ v = dgV (headF ls)) ∨
  (f = 17 ∧ ∃ (u1 u2 : Value) (la lb : List Lk), xs = [⟨u1, 35, lkL la⟩, ⟨u2, 35, lkL lb⟩] ∧ LaidK K ∧ la.length ≤ 4611686018427387904 ∧ lb.length ≤ 4611686018427387904 ∧ (∀ z ∈ la, z.kn K ∧ z.fit) ∧ (∀ z ∈ lb, z.kn K ∧ z.fit) ∧ v = .bool (clashB la lb))
def shpQD : FuncId → Option SX.Sh := fun f => if f = 8 then some .one else if f = 9 then some .one else if f = 12 then some (.tp [.one, .one, .one]) else if f = 14 then some .one else if f = 18 then some .one else if f = 16 then some .one else if f = 15 then some (.ag 32) else if f = 17 then some .one else none
noncomputable def cxQD (K A : Value → Nat → List Value → Prop) : SX.Cx := { P := Tryd.prog, R := RQD, shp := shpQD, K := K, A := A }
theorem okQD (K A : Value → Nat → List Value → Prop) : (cxQD K A).Ok := by
  refine SX.Cx.ok_of (fun _ => rfl) ?_
  intro K f xs v W hR hrd hKf
  rcases hR with ⟨rfl, hL, rfl, rfl⟩ | ⟨rfl, u, ls, rfl, hL, hb, rfl⟩ | ⟨rfl, u1, u2, la, lb, rfl, hL, hb, hb2, hk, hk2, rfl⟩ | ⟨rfl, u1, u2, la, lb, rfl, hL, hb, hb2, hk, hk2, rfl⟩ | ⟨rfl, y, z, rfl, hy, hz, rfl⟩ | ⟨rfl, u, ls, rfl, hL, hb, hk, rfl⟩ | ⟨rfl, u, ls, rfl, hL, hb, hk, rfl⟩ | ⟨rfl, u1, u2, la, lb, rfl, hL, hb, hb2, hk, hk2, rfl⟩
  · exact (sane_any W (laid_of hL hKf)).mono fun e w' h => SX.plainOk rfl h
  · obtain ⟨A, n, c, rfl, hr, hc, hln⟩ := lk_arg (hrd ⟨u, 35, lkL ls⟩ (by simp))
    exact (rfew_any ls A n c W hr hc (by omega) (laid_of hL hKf)).mono fun e w' h => SX.plainOk rfl h
  · obtain ⟨A, n, c, rfl, hr, hc, hln⟩ := lk_arg (hrd ⟨u1, 35, lkL la⟩ (by simp))
    obtain ⟨B, m, d, rfl, hr2, hc2, hlm⟩ := lk_arg (hrd ⟨u2, 35, lkL lb⟩ (by simp))
    exact (part_any la A n c lb B m d W hr hc (by omega) (fun z hz => (hk z hz).1.rd hKf) (fun z hz => (hk z hz).2) hr2 hc2 (by omega) (fun z hz => (hk2 z hz).1.rd hKf) (fun z hz => (hk2 z hz).2) (laid_of hL hKf)).mono fun e w' h => SX.plainOk rfl h
  · obtain ⟨A, n, c, rfl, hr, hc, hln⟩ := lk_arg (hrd ⟨u1, 35, lkL la⟩ (by simp))
    obtain ⟨B, m, d, rfl, hr2, hc2, hlm⟩ := lk_arg (hrd ⟨u2, 35, lkL lb⟩ (by simp))
    exact (rsame_any la A n c lb B m d W hr hc (by omega) (fun z hz => (hk z hz).1.rd hKf) (fun z hz => (hk z hz).2) hr2 hc2 (by omega) (fun z hz => (hk2 z hz).1.rd hKf) (fun z hz => (hk2 z hz).2) (laid_of hL hKf)).mono fun e w' h => SX.plainOk rfl h
  · exact (rsl_any y z W (hy.rd hKf) (hz.rd hKf)).mono fun e w' h => SX.plainOk rfl h
  · obtain ⟨A, n, c, rfl, hr, hc, hln⟩ := lk_arg (hrd ⟨u, 35, lkL ls⟩ (by simp))
    exact (check_any ls A n c W hr hc (by omega) (fun z hz => (hk z hz).1.rd hKf) (fun z hz => (hk z hz).2) (laid_of hL hKf)).mono fun e w' h => SX.plainOk rfl h
  · obtain ⟨A, n, c, rfl, hr, hc, hln⟩ := lk_arg (hrd ⟨u, 35, lkL ls⟩ (by simp))
    exact (head_any ls A n c W hr hc (by omega) (fun z hz => (hk z hz).1.rd hKf) (fun z hz => (hk z hz).2) (laid_of hL hKf)).mono fun e w' h => SX.plainOk rfl h
  obtain ⟨A, n, c, rfl, hr, hc, hln⟩ := lk_arg (hrd ⟨u1, 35, lkL la⟩ (by simp))
  obtain ⟨B, m, d, rfl, hr2, hc2, hlm⟩ := lk_arg (hrd ⟨u2, 35, lkL lb⟩ (by simp))
  exact (clash_any la A n c lb B m d W hr hc (by omega) (fun z hz => (hk z hz).1.rd hKf) (fun z hz => (hk z hz).2) hr2 hc2 (by omega) (fun z hz => (hk2 z hz).1.rd hKf) (fun z hz => (hk2 z hz).2) (laid_of hL hKf)).mono fun e w' h => SX.plainOk rfl h
def tree_parts : SX.Tree :=
(.df (.call 8 []) [] .one
(.df .not [(.q 2)] .one
(.br 3 []
(.ret (.k (.bool false)) [] [])
(.df (.call 9 [(.ext 35)]) [(.q 0)] .one
(.df .not [(.q 4)] .one
(.br 5 []
(.ret (.k (.bool true)) [] [])
(.df (.call 9 [(.ext 35)]) [(.q 1)] .one
(.df .not [(.q 6)] .one
(.br 7 []
(.ret (.k (.bool true)) [] [])
(.df (.call 12 [(.ext 35), (.ext 35)]) [(.q 0), (.q 1)] (.tp [.one, .one, .one])
(.df (.call 12 [(.ext 35), (.ext 35)]) [(.q 1), (.q 0)] (.tp [.one, .one, .one])
(.df (.bin .neq 26) [(.x 8 [2]), (.i 0)] .one
(.br 10 []
(.df (.bin .eql 3) [(.x 8 [0]), (.i 0)] .one
(.br 11 []
(.df .not [(.x 8 [1])] .one
(.br 12 []
(.df (.bin .neq 26) [(.x 9 [2]), (.i 0)] .one
(.ret (.q 13) [] []))
(.ret (.k (.bool false)) [] [])))
(.ret (.k (.bool false)) [] [])))
(.df (.bin .neq 26) [(.x 9 [2]), (.i 0)] .one
(.br 11 []
(.ret (.k (.bool false)) [] [])
(.df (.bin .neq 3) [(.x 8 [0]), (.x 9 [0])] .one
(.br 12 []
(.ret (.k (.bool false)) [] [])
(.df (.binb .neq) [(.x 8 [1]), (.x 9 [1])] .one
(.br 13 []
(.ret (.k (.bool false)) [] [])
(.df (.len false) [(.q 0)] .one
(.df (.len false) [(.q 1)] .one
(.df .min [(.q 14), (.q 15)] .one
(.df .not [(.x 8 [1])] .one
(.br 17 []
(.df (.bin .eql 3) [(.x 8 [0]), (.i 0)] .one
(.br 18 []
(.df (.slc false 35 false true false) [(.q 0), (.q 16)] .one
(.df (.slc false 35 false true false) [(.q 1), (.q 16)] .one
(.df (.call 14 [(.ext 35), (.ext 35)]) [(.q 19), (.q 20)] .one
(.ret (.q 21) [] []))))
(.ret (.k (.bool false)) [] [])))
(.df (.bin .geq 3) [(.x 8 [0]), (.i 0)] .one
(.br 18 []
(.df (.bin .lss 3) [(.x 8 [0]), (.q 16)] .one
(.br 19 []
(.df (.slc false 35 false true false) [(.q 0), (.x 8 [0])] .one
(.df (.slc false 35 false true false) [(.q 1), (.x 8 [0])] .one
(.df (.call 14 [(.ext 35), (.ext 35)]) [(.q 20), (.q 21)] .one
(.br 22 []
(.df .bnd [(.q 0), (.x 8 [0])] .one
(.df (.elems 35 0 35) [(.q 0), (.x 8 [0])] (.ag 35)
(.df .bnd [(.q 1), (.x 8 [0])] .one
(.df (.elems 35 0 35) [(.q 1), (.x 8 [0])] (.ag 35)
(.df (.call 18 [.no, .no]) [(.a (SX.Y 24 0 35)), (.a (SX.Y 26 0 35))] .one
(.df .not [(.q 27)] .one
(.ret (.q 28) [] [])))))))
(.ret (.k (.bool false)) [] [])))))
(.ret (.k (.bool false)) [] [])))
(.ret (.k (.bool false)) [] [])))))))))))))))))))))))))))
def args_parts : List SX.V := [.x 0 [], .x 1 []]
set_option maxRecDepth 100000 in
theorem run_parts (K A : Value → Nat → List Value → Prop) : (SX.run (cxQD K A) ⟨fun f => true, [], 0, 100⟩ 100000 0 (SX.door 7 Tryd.f7 args_parts [.one, .one]) [.code (Tryd.f7.body.getD .skip), .top Tryd.f7]).strip = tree_parts := by kernel_rfl
set_option maxRecDepth 100000 in
set_option maxHeartbeats 4000000 in
theorem parts_any (la : List Lk) (A : Option Addr) (n c : Nat) (lb : List Lk) (B : Option Addr) (m d : Nat) (w : World) (hr : Rd w 35 A n (lkL la)) (hc : n ≤ c) (hn : n ≤ 9223372036854775807) (hd : ∀ z ∈ la, z.rd w) (hnum : ∀ z ∈ la, z.num) (hr2 : Rd w 35 B m (lkL lb)) (hc2 : m ≤ d) (hn2 : m ≤ 9223372036854775807) (hd2 : ∀ z ∈ lb, z.rd w) (hnum2 : ∀ z ∈ lb, z.num) (hlaid : Laid w) : Calls Tryd.prog 7 #[.slice A n c, .slice B m d] w fun e w' => e = .returned (.bool true) ∧ Below w.heap.size w w' := by
  refine SX.calls_of_run (C := cxQD (K2 A n c la B m d lb) (fun _ _ _ => False)) (G := ⟨fun f => true, [], 0, 100⟩) (args := args_parts) (sh := [.one, .one]) (ρ := [.slice A n c, .slice B m d]) 100000 tree_parts (okQD _ _) Tryd.func7 rfl (run_parts _ _) (by kernel_rfl) (by kernel_rfl) (by kernel_rfl) ?_ ?_
  · rintro W hW s sz cells (h | h)
    · exact KL_rd hW hr hd hlaid s sz cells h
    exact KL_rd hW hr2 hd2 hlaid s sz cells h
  have hA := SX.rd_some hr
  have hlc : (lkL la).length = n * 35 := hr.1
  have hln : la.length = n := by rw [lkL_len] at hlc; omega
  have hB := SX.rd_some hr2
  have hlc2 : (lkL lb).length = m * 35 := hr2.1
  have hlm : lb.length = m := by rw [lkL_len] at hlc2; omega
  unfold tree_parts
  refine SX.E (.bool true) (fun α => ⟨[], trivial, .inl ⟨rfl, K2_laid _ _ _ _ _ _ _ _, rfl, rfl⟩, SX.noAli rfl⟩) ?_
  refine SX.D (.bool (!(true))) ?_
  refine SX.B (!(true)) (fun h3 => absurd h3 (by decide)) (fun h3 => ?_)
  try simp only [NRM] at h3
  refine SX.VC_df (.bool (fewB la)) (fun α => ⟨[⟨.slice A n c, 35, lkL la⟩], ⟨by kernel_rfl, by kernel_rfl, .inl (.inl (SX.SubK.full hlc hc)), trivial⟩, .inr (.inl ⟨rfl, _, la, rfl, K2_laid _ _ _ _ _ _ _ _, by omega, rfl⟩), SX.noAli rfl⟩) ((by kernel_rfl)) ?_
  refine SX.D (.bool (!(fewB la))) ?_
  refine SX.B (!(fewB la)) (fun h5 => ?_) (fun h5 => ?_)
  · try simp only [NRM] at h5
    exact SX.F (.bool true) (rfl)
  try simp only [NRM] at h5
  refine SX.VC_df (.bool (fewB lb)) (fun α => ⟨[⟨.slice B m d, 35, lkL lb⟩], ⟨by kernel_rfl, by kernel_rfl, .inr (.inl (SX.SubK.full hlc2 hc2)), trivial⟩, .inr (.inl ⟨rfl, _, lb, rfl, K2_laid _ _ _ _ _ _ _ _, by omega, rfl⟩), SX.noAli rfl⟩) ((by kernel_rfl)) ?_
  refine SX.D (.bool (!(fewB lb))) ?_
  refine SX.B (!(fewB lb)) (fun h7 => ?_) (fun h7 => ?_)
  · try simp only [NRM] at h7
    exact SX.F (.bool true) (rfl)
  try simp only [NRM] at h7
  obtain ⟨i, o, E, E', hP1, hP2, q1, q2⟩ := part_all la lb
  have hfit := few_fit (by simpa using h5) hd hnum
  have hfit2 := few_fit (by simpa using h7) hd2 hnum2
  have hn16 : n ≤ 16 := by have h0 := (fewB_iff.1 (by simpa using h5 : fewB la = true)).1; omega
  have hm16 : m ≤ 16 := by have h0 := (fewB_iff.1 (by simpa using h7 : fewB lb = true)).1; omega
  refine SX.E (.tuple #[.int .i64 (((i : Nat) : Int)), .bool o, .int .i64 E]) (fun α => ⟨[⟨.slice A n c, 35, lkL la⟩, ⟨.slice B m d, 35, lkL lb⟩], ⟨by kernel_rfl, by kernel_rfl, K_of (y := ⟨.slice A n c, 35, lkL la⟩) (by kernel_rfl) (.inl (.inl (SX.SubK.full hlc hc))), by kernel_rfl, by kernel_rfl, K_of (y := ⟨.slice B m d, 35, lkL lb⟩) (by kernel_rfl) (.inr (.inl (SX.SubK.full hlc2 hc2))), trivial⟩, .inr (.inr (.inl ⟨rfl, _, _, la, lb, rfl, K2_laid _ _ _ _ _ _ _ _, by omega, by omega, fun y hy => ⟨.inl (.inl (KL_data hy)), hfit y hy⟩, fun y hy => ⟨.inl (.inr (KL_data hy)), hfit2 y hy⟩, by rw [hP1]⟩)), SX.noAli rfl⟩) ?_
  refine SX.E (.tuple #[.int .i64 (((i : Nat) : Int)), .bool o, .int .i64 E']) (fun α => ⟨[⟨.slice B m d, 35, lkL lb⟩, ⟨.slice A n c, 35, lkL la⟩], ⟨by kernel_rfl, by kernel_rfl, K_of (y := ⟨.slice B m d, 35, lkL lb⟩) (by kernel_rfl) (.inr (.inl (SX.SubK.full hlc2 hc2))), by kernel_rfl, by kernel_rfl, K_of (y := ⟨.slice A n c, 35, lkL la⟩) (by kernel_rfl) (.inl (.inl (SX.SubK.full hlc hc))), trivial⟩, .inr (.inr (.inl ⟨rfl, _, _, lb, la, rfl, K2_laid _ _ _ _ _ _ _ _, by omega, by omega, fun y hy => ⟨.inl (.inr (KL_data hy)), hfit2 y hy⟩, fun y hy => ⟨.inl (.inl (KL_data hy)), hfit y hy⟩, by rw [hP2]⟩)), SX.noAli rfl⟩) ?_
  refine SX.D (.bool ((E : Int) != 0)) ?_
  refine SX.B ((E : Int) != 0) (fun h10 => ?_) (fun h10 => ?_)
  · try simp only [NRM] at h10
    obtain ⟨e1, e2, e3⟩ := q1 (by simpa using h10)
    refine SX.D (.bool ((((i : Nat) : Int) : Int) == 0)) ?_
    refine SX.B ((((i : Nat) : Int) : Int) == 0) (fun h11 => ?_) (fun h11 => absurd h11 (by rw [e1]; decide))
    try simp only [NRM] at h11
    refine SX.D (.bool (!(o))) ?_
    refine SX.B (!(o)) (fun h12 => ?_) (fun h12 => absurd h12 (by rw [e2]; decide))
    try simp only [NRM] at h12
    refine SX.D (.bool ((E' : Int) != 0)) ?_
    exact SX.F (.bool ((E' : Int) != 0)) (by rw [bne_iff_ne.2 e3])
  try simp only [NRM] at h10
  obtain ⟨e1, e2, e3⟩ := q2 (by simpa using h10)
  refine SX.D (.bool ((E' : Int) != 0)) ?_
  refine SX.B ((E' : Int) != 0) (fun h11 => absurd h11 (by rw [e1]; decide)) (fun h11 => ?_)
  try simp only [NRM] at h11
  refine SX.D (.bool ((((i : Nat) : Int) : Int) != ((i : Nat) : Int))) ?_
  refine SX.B ((((i : Nat) : Int) : Int) != ((i : Nat) : Int)) (fun h12 => absurd h12 (by simp)) (fun h12 => ?_)
  try simp only [NRM] at h12
  refine SX.D (.bool (!(o == o))) ?_
  refine SX.B (!(o == o)) (fun h13 => absurd h13 (by simp)) (fun h13 => ?_)
  try simp only [NRM] at h13
  refine SX.D (.int .i64 (((n : Nat) : Int))) ?_
  refine SX.D (.int .i64 (((m : Nat) : Int))) ?_
  refine SX.E (.int .i64 (((min n m : Nat) : Int))) (fun α => Eq.trans (b := SX.minV (.int .i64 (n : Int)) (.int .i64 (m : Int))) (by kernel_rfl) (min_nat n m)) ?_
  refine SX.D (.bool (!(o))) ?_
  refine SX.B (!(o)) (fun h17 => ?_) (fun h17 => ?_)
  · try simp only [NRM] at h17
    obtain ⟨i0, hst⟩ := e2 (by simpa using h17)
    rw [hln, hlm] at hst
    refine SX.D (.bool ((((i : Nat) : Int) : Int) == 0)) ?_
    refine SX.B ((((i : Nat) : Int) : Int) == 0) (fun h18 => ?_) (fun h18 => absurd h18 (by rw [i0]; decide))
    try simp only [NRM] at h18
    refine SX.E ((SX.subS A 35 0 (min n m) c)) (fun α => SX.slc_hi (A := A) (n := n) (c := c) (k := (min n m)) (by kernel_rfl) (by kernel_rfl) (by omega)) ?_
    refine SX.E ((SX.subS B 35 0 (min n m) d)) (fun α => SX.slc_hi (A := B) (n := m) (c := d) (k := (min n m)) (by kernel_rfl) (by kernel_rfl) (by omega)) ?_
    refine SX.E (.bool (sameB (la.take (min n m)) (lb.take (min n m)))) (fun α => ⟨[⟨SX.subS A 35 0 (min n m) c, 35, lkL (la.take (min n m))⟩, ⟨SX.subS B 35 0 (min n m) d, 35, lkL (lb.take (min n m))⟩], ⟨by kernel_rfl, by kernel_rfl, K_of (y := ⟨SX.subS A 35 0 (min n m) c, 35, lkL (la.take (min n m))⟩) (by kernel_rfl) (.inl (KL_take (by omega) hc)), by kernel_rfl, by kernel_rfl, K_of (y := ⟨SX.subS B 35 0 (min n m) d, 35, lkL (lb.take (min n m))⟩) (by kernel_rfl) (.inr (KL_take (by omega) hc2)), trivial⟩, .inr (.inr (.inr (.inl ⟨rfl, _, _, (la.take (min n m)), (lb.take (min n m)), rfl, K2_laid _ _ _ _ _ _ _ _, by rw [List.length_take]; omega, by rw [List.length_take]; omega, fun y hy => ⟨.inl (.inl (KL_data (List.mem_of_mem_take hy))), hfit y (List.mem_of_mem_take hy)⟩, fun y hy => ⟨.inl (.inr (KL_data (List.mem_of_mem_take hy))), hfit2 y (List.mem_of_mem_take hy)⟩, rfl⟩))), SX.noAli rfl⟩) ?_
    exact SX.F (.bool (sameB (la.take (min n m)) (lb.take (min n m)))) (by rw [same_take (by omega) (by omega) hst])
  try simp only [NRM] at h17
  obtain ⟨y, z, hy, hz, hst, hns⟩ := e3 (by simpa using h17)
  have hin1 : i < n := by have := (List.getElem?_eq_some_iff.1 hy).1; omega
  have hin2 : i < m := by have := (List.getElem?_eq_some_iff.1 hz).1; omega
  have hym := List.mem_of_getElem? hy
  have hzm := List.mem_of_getElem? hz
  refine SX.D (.bool (decide (((i : Nat) : Int) ≥ 0))) ?_
  refine SX.B (decide (((i : Nat) : Int) ≥ 0)) (fun h18 => ?_) (fun h18 => absurd h18 (by rw [decide_eq_true (by omega)]; decide))
  try simp only [NRM] at h18
  refine SX.D (.bool (decide (((i : Nat) : Int) < ((min n m : Nat) : Int)))) ?_
  refine SX.B (decide (((i : Nat) : Int) < ((min n m : Nat) : Int))) (fun h19 => ?_) (fun h19 => absurd h19 (by rw [decide_eq_true (by omega)]; decide))
  try simp only [NRM] at h19
  refine SX.E ((SX.subS A 35 0 i c)) (fun α => SX.slc_hi (A := A) (n := n) (c := c) (k := i) (by kernel_rfl) (by kernel_rfl) (by omega)) ?_
  refine SX.E ((SX.subS B 35 0 i d)) (fun α => SX.slc_hi (A := B) (n := m) (c := d) (k := i) (by kernel_rfl) (by kernel_rfl) (by omega)) ?_
  refine SX.E (.bool (sameB (la.take i) (lb.take i))) (fun α => ⟨[⟨SX.subS A 35 0 i c, 35, lkL (la.take i)⟩, ⟨SX.subS B 35 0 i d, 35, lkL (lb.take i)⟩], ⟨by kernel_rfl, by kernel_rfl, K_of (y := ⟨SX.subS A 35 0 i c, 35, lkL (la.take i)⟩) (by kernel_rfl) (.inl (KL_take (by omega) hc)), by kernel_rfl, by kernel_rfl, K_of (y := ⟨SX.subS B 35 0 i d, 35, lkL (lb.take i)⟩) (by kernel_rfl) (.inr (KL_take (by omega) hc2)), trivial⟩, .inr (.inr (.inr (.inl ⟨rfl, _, _, (la.take i), (lb.take i), rfl, K2_laid _ _ _ _ _ _ _ _, by rw [List.length_take]; omega, by rw [List.length_take]; omega, fun y hy => ⟨.inl (.inl (KL_data (List.mem_of_mem_take hy))), hfit y (List.mem_of_mem_take hy)⟩, fun y hy => ⟨.inl (.inr (KL_data (List.mem_of_mem_take hy))), hfit2 y (List.mem_of_mem_take hy)⟩, rfl⟩))), SX.noAli rfl⟩) ?_
  refine SX.B (sameB (la.take i) (lb.take i)) (fun h22 => ?_) (fun h22 => absurd h22 (by rw [same_take (by omega) (by omega) hst]; decide))
  try simp only [NRM] at h22
  refine SX.E (.bool true) (fun α => SX.extBnd (A := A) (n := n) (c := c) (j := i) hA (by kernel_rfl) (by kernel_rfl) (by omega)) ?_
  refine SX.E (.agg (cellsLk y).toArray) (fun α => SX.extElems (f := cellsLk) (l := la) (A := A) (n := n) (c := c) (j := i) (z := y) (fun _ => rfl) hA (by kernel_rfl) (by kernel_rfl) (by omega) (.inl (.inl (SX.SubK.full hlc hc))) hy) ?_
  refine SX.E (.bool true) (fun α => SX.extBnd (A := B) (n := m) (c := d) (j := i) hB (by kernel_rfl) (by kernel_rfl) (by omega)) ?_
  refine SX.E (.agg (cellsLk z).toArray) (fun α => SX.extElems (f := cellsLk) (l := lb) (A := B) (n := m) (c := d) (j := i) (z := z) (fun _ => rfl) hB (by kernel_rfl) (by kernel_rfl) (by omega) (.inr (.inl (SX.SubK.full hlc2 hc2))) hz) ?_
  refine SX.E (.bool (decide (slE y z))) (fun α => ⟨[⟨valLk y, 0, []⟩, ⟨valLk z, 0, []⟩], ⟨by kernel_rfl, by kernel_rfl, by kernel_rfl, by kernel_rfl, trivial⟩, .inr (.inr (.inr (.inr (.inl ⟨rfl, y, z, rfl, .inl (.inl (KL_data hym)), .inl (.inr (KL_data hzm)), rfl⟩)))), SX.noAli rfl⟩) ?_
  refine SX.D (.bool (!(decide (slE y z)))) ?_
  exact SX.F (.bool (!(decide (slE y z)))) (by rw [decide_eq_false hns]; rfl)
end Go.Proofs.YtdamlaegboiokaaDoor
namespace Go.Proofs.YtdamlaegboiokaaDoor
set_option maxRecDepth 20000
open Go Go.RowKit Go.ChangeShapes Go.WideShapes Go.ChangeAt
theorem max_eq : maxLen = 9223372036854775807 := by unfold maxLen; rfl
section
variable {H : Type} {enc : TypeId × Value → H} {P : Program} {w : World} {base : Nat} {spare : Nat → Bool} {held : Bool} {fuel : Nat} {t : TypeId} {cs : List Value}
theorem take_at {off : Nat} {v : Value} (h : (cs.drop off).take 1 = [v]) : cs[off]? = some v := by
  have : ((cs.drop off).take 1)[0]? = some v := by rw [h]; rfl
  simpa [List.getElem?_take, List.getElem?_drop] using this
end
section
variable {H : Type} {enc : TypeId × Value → H} {w : World} {base : Nat} {sp : Nat → Bool} {held : Bool} {r : Reach} {b0 : Nat} {v : Value} {d : DataW H} {ps : List MemPlace}
theorem els_of {β : Type} {f : β → List Value} {Q : β → Prop} {sz : Nat} (a : Addr) : ∀ (len : Nat), (∀ i, i < len → ∃ c : β, Q c ∧ w.cells? base (a.add (i * sz)) sz = some (f c)) →
    ∃ l : List β, l.length = len ∧ (∀ c ∈ l, Q c) ∧ ∀ i c, l[i]? = some c → w.cells? base (a.add (i * sz)) sz = some (f c)
  | 0, _ => ⟨[], rfl, (fun _ h => nomatch h), by simp⟩
  | len + 1, h => by
    obtain ⟨l, hl, hq, hx⟩ := els_of a len (fun i hi => h i (by omega))
    obtain ⟨c, hqc, hc⟩ := h len (by omega)
    refine ⟨l ++ [c], by simp [hl], fun c' hc' => ?_, fun i c' hc' => ?_⟩
    · rcases List.mem_append.1 hc' with h1 | h1
      · exact hq c' h1
      obtain rfl : c' = c := by simpa using h1
      exact hqc
    rw [List.getElem?_append] at hc'
    split at hc'
    · exact hx i c' hc'
    have : i - l.length = 0 := by
      rcases Nat.eq_zero_or_pos (i - l.length) with h0 | h0
      · exact h0
      rw [List.getElem?_eq_none (by simp; omega)] at hc'; cases hc'
    rw [this] at hc'
    obtain rfl : c = c' := by simpa using hc'
    obtain rfl : i = len := by omega
    exact hc
theorem slice_of {β : Type} {f : β → List Value} {Q : β → Prop} {sz : Nat} {t e : TypeId} {n : Nat} {cs : List Value} {y : DataW H × List MemPlace} (hu : Tryd.prog.underlying t = some (.slice e)) (hC : Tryd.prog.cellsOf e = sz) (h0 : 0 < sz) (hlen : ∀ c, (f c).length = sz)
    (hel : ∀ (n : Nat) (cs : List Value) (y : DataW H × List MemPlace), DataW.trod enc Tryd.prog w base sp held n e cs = some y → ∃ c, Q c ∧ cs = f c) (hf : DataW.trod enc Tryd.prog w base sp held n t cs = some y) :
    ∃ (A : Option Addr) (k cap : Nat) (l : List β), cs = [.slice A k cap] ∧ Rd w sz A k (l.flatMap f) ∧ k ≤ cap ∧ cap ≤ maxLen ∧ ∀ c ∈ l, Q c := by
  rcases DataW.trod_slice hu hf with ⟨he, _⟩ | ⟨a, len, cap', elems, rest, m, _, he, _, _, hlc, hcm, hel', hcell, _, _⟩
  · exact ⟨none, 0, 0, [], he, ⟨by simp, fun h => absurd h (by omega)⟩, Nat.le_refl _, by omega, fun _ h => nomatch h⟩
  rw [hC] at hcell
  obtain ⟨l, hl, hq, hx⟩ := els_of (w := w) (base := base) (f := f) (Q := Q) (sz := sz) a len fun i hi => by
    have h1 := hcell i hi
    rw [List.getElem?_eq_getElem (by omega)] at h1
    cases hq : w.cells? base (a.add (i * sz)) sz with
    | none => rw [hq] at h1; simp at h1
    | some cs =>
      rw [hq] at h1
      obtain ⟨c, hqc, rfl⟩ := hel _ _ _ (by simpa using h1)
      exact ⟨c, hqc, rfl⟩
  have hll : (l.flatMap f).length = len * sz := by rw [SX.flat_len hlen, hl]
  refine ⟨some a, len, cap', l, he, ⟨hll, fun hn => ⟨a, rfl, ?_, fun j u hu => ?_⟩⟩, by omega, by omega, hq⟩
  · obtain ⟨c, hc⟩ : ∃ c, l[0]? = some c := ⟨_, List.getElem?_eq_getElem (by omega)⟩
    have := World.cells?_block (hx 0 c hc) (by omega)
    rwa [block_of_add] at this
  have hj : j < len * sz := by
    have := (List.getElem?_eq_some_iff.1 hu).1
    rwa [hll] at this
  have hd : j / sz < len := Nat.div_lt_of_lt_mul (by rw [Nat.mul_comm]; exact hj)
  have hm : j % sz < sz := Nat.mod_lt _ h0
  obtain ⟨c, hc⟩ : ∃ c, l[j / sz]? = some c := ⟨_, List.getElem?_eq_getElem (by omega)⟩
  have hw := hx _ c hc
  have hjj : j / sz * sz + j % sz = j := by rw [Nat.mul_comm]; exact Nat.div_add_mod j sz
  have h4 : (f c)[j % sz]? = some u := by
    rw [← hjj, ← List.getElem?_drop, SX.flat_elem hlen hc, List.getElem?_append_left (by rw [hlen]; exact hm)] at hu
    exact hu
  obtain ⟨_, _, h5⟩ := World.cells?_some hw
  have h6 := (h5 (j % sz) hm).trans h4
  have h7 : (a.add (j / sz * sz)).add (j % sz) = a.add j := by rw [Addr.add_add, hjj]
  rw [h7] at h6
  exact h6
theorem u8_cell {n : Nat} {cs : List Value} {y : DataW H × List MemPlace} (hf : DataW.trod enc Tryd.prog w base sp held n 5 cs = some y) : ∃ b : W8, True ∧ cs = c8 b := by
  obtain ⟨n, e, _, hw⟩ := DataW.trod_int Tryd.underlying5 hf
  have hb := bounds_u8 hw
  refine ⟨BitVec.ofNat 8 n.toNat, trivial, e.trans ?_⟩
  show [Value.int .u8 n] = [Value.int .u8 ((BitVec.ofNat 8 n.toNat).toNat : Int)]
  rw [BitVec.toNat_ofNat]
  congr 2
  omega
theorem u8s_of {n : Nat} {cs : List Value} {y : DataW H × List MemPlace} (hf : DataW.trod enc Tryd.prog w base sp held n 23 cs = some y) : ∃ (A : Option Addr) (k cap : Nat) (l : List W8), cs = [.slice A k cap] ∧ Rd w 1 A k (l.flatMap c8) ∧ k ≤ cap ∧ cap ≤ maxLen := by
  obtain ⟨A, k, cap, l, h1, h2, h3, h4, _⟩ := slice_of (f := c8) (sz := 1) (Q := fun _ => True) Tryd.underlying23 (by kernel_rfl) (by decide) (fun _ => rfl) (fun n cs y h => u8_cell h) hf
  exact ⟨A, k, cap, l, h1, h2, h3, h4⟩
theorem dig_cells {n : Nat} {cs : List Value} {y : DataW H × List MemPlace} (hf : DataW.trod enc Tryd.prog w base sp held n 35 cs = some y) : ∃ f : Nat → W8, cs = (List.range 32).map fun j => w8 (f j) := by
  obtain ⟨xs, m, _, _, hlen, hl, hx⟩ := DataW.trod_array Tryd.underlying35 hf
  have hC : Tryd.prog.cellsOf 35 = 32 := by kernel_rfl
  have hE : Tryd.prog.cellsOf 5 = 1 := by kernel_rfl
  rw [hC] at hlen
  have hb : ∀ j, j < 32 → ∃ b : W8, cs[j]? = some (w8 b) := fun j hj => by
    have g := (hx j hj).trans (List.getElem?_eq_getElem (by omega))
    rw [hE, Nat.mul_one] at g
    obtain ⟨b, _, e⟩ := u8_cell g
    exact ⟨b, take_at e⟩
  refine ⟨fun j => if h : j < 32 then (hb j h).choose else 0, ?_⟩
  apply List.ext_getElem?
  intro j
  by_cases hj : j < 32
  · rw [(hb j hj).choose_spec, List.getElem?_map, List.getElem?_range hj]
    simp only [Option.map_some, dif_pos hj]
  rw [List.getElem?_eq_none (by omega), List.getElem?_eq_none (by rw [List.length_map, List.length_range]; omega)]
theorem i64_wf {a : Int} (h : (Lit.int .i64 a).wf = true) : -9223372036854775808 ≤ a ∧ a ≤ 9223372036854775807 := by
  have h : (decide (IntKind.i64.min ≤ a) && decide (a ≤ IntKind.i64.max)) = true := h
  rw [Bool.and_eq_true, decide_eq_true_eq, decide_eq_true_eq] at h
  exact ⟨h.1, h.2⟩
theorem i64_at {t : TypeId} {fuel off : Nat} {cs : List Value} (hu : Tryd.prog.underlying t = some (.int .i64)) {y : DataW H × List MemPlace} (h : DataW.trod enc Tryd.prog w base sp held fuel t ((cs.drop off).take 1) = some y) : ∃ n, cs[off]? = some (.int .i64 n) ∧ (-9223372036854775808 ≤ n ∧ n ≤ 9223372036854775807) := by
  obtain ⟨n, e, _, hw⟩ := DataW.trod_int hu h
  exact ⟨n, take_at e, i64_wf hw⟩
theorem sb_of (l : List W8) : ∃ tx : ByteArray, sb tx = l := ⟨bt l, sb_bt l⟩
def LkOk (w : World) (z : Lk) : Prop := z.rd w ∧ z.num
theorem link_cells {n : Nat} {cs : List Value} {y : DataW H × List MemPlace} (hf : DataW.trod enc Tryd.prog w base sp held n 37 cs = some y) : ∃ z : Lk, LkOk w z ∧ cs = cellsLk z := by
  obtain ⟨xs, n, _, _, hlen, hl, hx⟩ := DataW.trod_struct Tryd.underlying37 hf
  have hC : Tryd.prog.cellsOf 37 = 35 := by kernel_rfl
  rw [hC] at hlen
  have hl' : xs.length = 4 := hl
  have g0 : DataW.trod enc Tryd.prog w base sp held n 3 ((cs.drop 0).take 1) = some (xs[0]'(by omega)) := (hx 0 _ rfl).trans (List.getElem?_eq_getElem _)
  obtain ⟨v0, e0, b0⟩ := i64_at Tryd.underlying3 g0
  have g1 : DataW.trod enc Tryd.prog w base sp held n 3 ((cs.drop 1).take 1) = some (xs[1]'(by omega)) := (hx 1 _ rfl).trans (List.getElem?_eq_getElem _)
  obtain ⟨v1, e1, b1⟩ := i64_at Tryd.underlying3 g1
  have g2 : DataW.trod enc Tryd.prog w base sp held n 35 ((cs.drop 2).take 32) = some (xs[2]'(by omega)) := (hx 2 _ rfl).trans (List.getElem?_eq_getElem _)
  obtain ⟨f, e2⟩ := dig_cells g2
  have g3 : DataW.trod enc Tryd.prog w base sp held n 23 ((cs.drop 34).take 1) = some (xs[3]'(by omega)) := (hx 3 _ rfl).trans (List.getElem?_eq_getElem _)
  obtain ⟨A, k, cap, l, e3, hr, hk, _⟩ := u8s_of g3
  obtain ⟨tx, rfl⟩ := sb_of l
  refine ⟨⟨v0, v1, f, A, k, cap, tx⟩, ⟨⟨hr, hk⟩, b0, b1⟩, ?_⟩
  show cs = [.int .i64 v0, .int .i64 v1] ++ (List.range 32).map (fun j => w8 (f j)) ++ [.slice A k cap]
  have h0 : cs = cs.take 2 ++ ((cs.drop 2).take 32 ++ cs.drop 34) := by
    rw [show cs.drop 34 = (cs.drop 2).drop 32 by rw [List.drop_drop], List.take_append_drop, List.take_append_drop]
  have h1 : cs.take 2 = [.int .i64 v0, .int .i64 v1] := by
    apply List.ext_getElem?
    intro i
    rw [List.getElem?_take]
    split
    · have hc : i = 0 ∨ i = 1 := by omega
      rcases hc with rfl | rfl
      · exact e0
      exact e1
    rw [List.getElem?_eq_none (by show 2 ≤ i; omega)]
  have h2 : cs.drop 34 = [.slice A k cap] := by
    rw [← e3, List.take_of_length_le (by simp; omega)]
  rw [h0, h1, e2, h2, List.append_assoc]
theorem open_links (hd : DataW.Trod enc Tryd.prog w base sp held 22 v d ps) : ∃ (A : Option Addr) (n cap : Nat) (l : List Lk), v.cells.toList = [.slice A n cap] ∧ Rd w 35 A n (lkL l) ∧ n ≤ cap ∧ cap ≤ maxLen ∧ ∀ z ∈ l, LkOk w z := by
  obtain ⟨fuel, hf⟩ := hd
  exact slice_of (f := cellsLk) (sz := 35) (Q := LkOk w) Tryd.underlying22 (by kernel_rfl) (by decide) (fun _ => rfl) (fun n cs y h => link_cells h) hf
theorem v_slice {r : Reach} {b0 : Nat} {t e : TypeId} (hu : Tryd.prog.underlying t = some (.slice e)) (hval : Value.okWide Tryd.prog w r b0 t v) {A : Option Addr} {n cap : Nat} (h : v.cells.toList = [.slice A n cap]) : v = .slice A n cap := by
  obtain ⟨A', n', c', rfl⟩ := okWide_slice hu hval
  simpa [Value.cells] using h
end
def laidL : List (String × DataW Unit) := [("kinesphere/digest.start", Rows.laid_kinesphere_digest_start), ("kinesphere/digest.numbers", Rows.laid_kinesphere_digest_numbers)]
theorem gStart : Tryd.prog.globalNamed "kinesphere/digest.start" = some 0 := by kernel_rfl
theorem gNums : Tryd.prog.globalNamed "kinesphere/digest.numbers" = some 1 := by kernel_rfl
theorem laid_world {W : World} (h : laidMetH Tryd.prog laidL W) : Laid W := by
  rw [MakeChecks.laidMetH_plain _ _ _ (by kernel_rfl)] at h
  have h0 : laidMet Tryd.prog (("kinesphere/digest.start", Lib.tabData .u32 (startS.cells.map fun v => match v with | .int _ i => i | _ => 0)) :: [("kinesphere/digest.numbers", Rows.laid_kinesphere_digest_numbers)]) W := cast (by kernel_rfl) h
  have h1 : laidMet Tryd.prog (("kinesphere/digest.numbers", Lib.tabData .u32 (numbersK.map fun x => (x.toNat : Int))) :: []) W := cast (by kernel_rfl) (laidMet.tail h0)
  have T0 := Lib.tabIs_of_head gStart (t := 71) (e := 70) (n := 8) (by kernel_rfl) Tryd.underlying71 Tryd.underlying70 (by kernel_rfl) (by kernel_rfl) h0
  have T1 := Lib.tabIs_of_head gNums (t := 84) (e := 70) (n := 64) (by kernel_rfl) Tryd.underlying84 Tryd.underlying70 (by kernel_rfl) (by kernel_rfl) h1
  have lt : ∀ {b : Nat} {v : Value}, W.cell? ⟨b, 0, none⟩ = some v → b < W.heap.size := fun {b v} h1 => by
    unfold World.cell? at h1
    cases hb : W.heap[b]? with
    | none => simp only [hb] at h1; simp at h1
    | some o => exact (Array.getElem?_eq_some_iff.1 hb).1
  have ad : ∀ b j : Nat, (⟨b, 0, none⟩ : Addr).add j = ⟨b, j, none⟩ := fun b j => by unfold Addr.add; split <;> simp_all
  refine ⟨⟨rfl, fun _ => ⟨_, rfl, lt (T0.cell gStart 0 (by decide)), fun j u hu => ?_⟩⟩, ⟨by rw [SX.flat_len c32_len]; rfl, fun _ => ⟨_, rfl, lt (T1.cell gNums 0 (by decide)), fun j u hu => ?_⟩⟩⟩
  · have hj : j < 8 := (List.getElem?_eq_some_iff.1 hu).1
    rw [ad, T0.cell gStart j (by rw [List.length_map]; exact hj), ← hu]
    have : ∀ j, j < 8 → some (Value.int .u32 ((startS.cells.map fun v => match v with | .int _ i => i | _ => 0).getD j 0)) = startS.cells[j]? := by
      intro j hj
      match j, hj with
      | 0, _ => rfl
      | 1, _ => rfl
      | 2, _ => rfl
      | 3, _ => rfl
      | 4, _ => rfl
      | 5, _ => rfl
      | 6, _ => rfl
      | 7, _ => rfl
    exact this j hj
  have hj : j < 64 := by have := (List.getElem?_eq_some_iff.1 hu).1; rw [SX.flat_len c32_len] at this; exact this
  rw [ad, T1.cell gNums j (by rw [List.length_map]; exact hj), ← hu, flat_c32, List.getElem?_map, List.getD_eq_getElem?_getD, List.getElem?_map, List.getElem?_eq_getElem (show j < numbersK.length from hj)]
  rfl
theorem door_met (os : Os) (args : Array Value) : laidMetH Tryd.prog laidL ((World.doorLaid Tryd.prog 400 os).forCall (fun _ _ => 0) ⟨#[], args, []⟩).memory :=
  laidMetH_of_parts3 (fuel := 8) (laidMet_of_run' 8 (by kernel_rfl) (by kernel_rfl)) (by kernel_rfl) (by kernel_rfl)
end Go.Proofs.YtdamlaegboiokaaDoor
namespace Go.Proofs.YtdamlaegboiokaaDoor.chainParts
open Go Go.ChangeShapes Go.WideShapes Go.ChangeAt Go.RowKit
set_option maxRecDepth 100000 in
theorem lifted (os : Os) (started : os.Started) (H : Type) (enc : TypeId × Value → H) :
    ReturnsInHanded {} Tryd.checked os 7 .any (fun w args => (Rows.chainPartsSpec.pre enc Tryd.prog Tryd.f7 [] false w args ∧ laidMetH Tryd.prog laidL w) ∧ sizedMet enc Tryd.prog Tryd.f7 (OpenSpec.ofChange Rows.chainPartsSpec) false w args)
      (Rows.chainPartsSpec.post enc Tryd.prog Tryd.f7 false true false false) := by
  refine returnsInHanded_of_change_and (C := Tryd.checked) (X := fun w _ => laidMetH Tryd.prog laidL w) (fun _ _ _ hh h => h.of_heap hh) ownK started (by kernel_rfl) Tryd.func7
    (ChangeSpec.witness_shaped (enc := enc) (C := Tryd.checked) (os := os) (X := fun w _ => laidMetH Tryd.prog laidL w) false (World.doorLaid Tryd.prog 400 os) #[.slice none 0 0, .slice none 0 0] 8 rfl (World.shaped_of_RefB (by kernel_rfl) (by kernel_rfl)) (by kernel_rfl) (by kernel_rfl) (by kernel_rfl) (door_met os _)) ?_
  intro W base args ds gs before hval0 hW _ _ hL _
  have hval : ∀ (j : Nat) t v, Tryd.f7.params[j]? = some t → args[j]? = some v → Value.okWide Tryd.prog W .any base t v := hval0
  have hW' := hW
  obtain ⟨p, q, hA0, hV, rfl, hfz, hnd⟩ := hW
  have hA : DataW.TrodAll enc Tryd.prog W 0 (fun _ => true) true Tryd.f7.params.toList args.toList ds p := hA0
  rw [Tryd.params7] at hA hval
  obtain ⟨v0, vs0, d0, ds0, p0, q0, hargs, rfl, rfl, h0, r0⟩ := trodAll_cons hA
  obtain ⟨v1, vs1, d1, ds1, p1, q1, rfl, rfl, rfl, h1, r1⟩ := trodAll_cons r0
  obtain ⟨rfl, rfl, rfl⟩ := trodAll_nil r1
  obtain rfl : args = #[v0, v1] := by cases args; simp_all
  obtain ⟨rfl, rfl⟩ := trodVars_none hV
  obtain ⟨A0, n0, c0, l0, e0, hr0, hc0, hm0, hq0⟩ := open_links h0
  obtain rfl := v_slice Tryd.underlying22 (hval 0 22 v0 rfl rfl) e0
  rw [max_eq] at hm0
  obtain ⟨A1, n1, c1, l1, e1, hr1, hc1, hm1, hq1⟩ := open_links h1
  obtain rfl := v_slice Tryd.underlying22 (hval 1 22 v1 rfl rfl) e1
  rw [max_eq] at hm1
  clear hA0 hval0
  have hlaid := laid_world hL
  refine (parts_any l0 A0 n0 c0 l1 A1 n1 c1 W hr0 hc0 (by omega) (fun z hz => (hq0 z hz).1) (fun z hz => (hq0 z hz).2) hr1 hc1 (by omega) (fun z hz => (hq1 z hz).1) (fun z hz => (hq1 z hz).2) hlaid).mono fun e W' ⟨he, hb⟩ => ?_
  subst he
  exact ⟨_, rfl, law_post laidOut (by kernel_rfl) rfl hW' hb rfl rfl Tryd.underlying4⟩
theorem over : Rows.chainPartsRow.holds Tryd.pinned (OpenSpec.ofChange Rows.chainPartsSpec) :=
  OpenClaim.holds_of_wide 7 Tryd.f7 rfl rfl rfl rfl rfl rfl rfl ⟨rfl, rfl, rfl, rfl, rfl⟩ rfl rfl rfl rfl rfl (by kernel_rfl) Tryd.func7 (by kernel_rfl)
    (of_decide_eq_true (by kernel_rfl)) (by unfold Func.isWrapper; first | (rw [if_pos (by decide +kernel)]; kernel_rfl) | (rw [if_neg (by decide +kernel)]; exact ⟨rfl, rfl⟩))
    (fun os started H enc _ => lifted os started H enc)
theorem proved : Rows.ChainPartsCardSaid :=
  Claim7.holds_tied_plain_at .later [] [.data, .data] true (true, "521b2ca88230f32fb39facb778099429df77589fc8ba99baccf153ac95919c22") false
    over (fun _ h => by cases h) (by kernel_rfl) (fun _ h => by cases h) chainParts_row_tie rfl ⟨rfl, rfl⟩ (by kernel_rfl) rfl
    (fun f fn hf hfn => by
      obtain rfl : f = 7 := Option.some.inj ((show Tryd.prog.funcNamed "kinesphere/kinespherelaw08.ChainParts" = some 7 by kernel_rfl).symm.trans hf) |>.symm
      obtain rfl : fn = Tryd.f7 := (Option.some.inj (Tryd.func7.symm.trans hfn)).symm
      exact ⟨by kernel_rfl, fun j t ht => by
        rw [Tryd.params7] at ht
        have hm : t ∈ [22, 22] := by simpa using Array.mem_of_getElem? ht
        have hall : ([22, 22].all fun u => !Tryd.prog.wantsStandIn u) = true := by kernel_rfl
        exact (show Tryd.prog.wantsStandIn t = false by simpa using List.all_eq_true.1 hall t hm)⟩)
    (by kernel_rfl)
#print axioms proved
end Go.Proofs.YtdamlaegboiokaaDoor.chainParts
