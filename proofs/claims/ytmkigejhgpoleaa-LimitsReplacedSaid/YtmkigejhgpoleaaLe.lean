/-
  The limits that stand: program and specification.
-/
import Derived.Test.YtmkigejhgpoleaaLd
namespace Go.Proofs.Ytmkigejhgpoleaa
set_option linter.unusedSimpArgs false
set_option linter.unusedVariables false
open Go Go.RowKit
theorem SX.SlRet.ok0 {C : SX.Cx} {f : FuncId} {as' : List SX.Arg} {W W' : World} {e : Ending} {k : Int} {cells : List Value} {sz : Nat} (hs : C.sh f = .tp [.sl sz, .one]) (h : Below W.heap.size W W' ∧ ∃ hdr, e = .returned (.tuple #[hdr, .int .i64 k]) ∧ SX.SlRet W W' [] hdr sz cells) :
    Below W.heap.size W W' ∧ ∃ hdr, e = .returned ((C.sh f).fill hdr (.tuple #[.agg cells.toArray, .int .i64 k])) ∧ ∀ p z, (p, z) ∈ (C.sh f).sls [] → SX.HdrOk C f as' W W' hdr z (SX.cellsV (p.foldl SX.comp (.tuple #[.agg cells.toArray, .int .i64 k]))) := by
  obtain ⟨hb, hdr, he, h1, h2, h3⟩ := h
  refine ⟨hb, hdr, by rw [hs, he]; rfl, fun p z hp => ?_⟩
  rw [hs] at hp
  obtain ⟨rfl, rfl⟩ : p = [0] ∧ z = sz := by simpa [SX.Sh.sls, SX.Sh.slsL] using hp
  refine ⟨h1, h2, .inl (h3.resolve_right ?_)⟩
  rintro ⟨y, hy, _⟩
  cases hy
theorem chkL_zero {ls : List Lim} (h : chkL ls = 0) : ls.length ≤ 512 ∧ okL ls := by
  unfold chkL at h
  split at h
  · cases h
  · split at h
    · exact ⟨by omega, by assumption⟩
    · cases h
def inR (p d t : Int) : Prop := (0 ≤ p ∧ p ≤ 63) ∧ (0 ≤ d ∧ d ≤ 73048) ∧ (0 ≤ t ∧ t ≤ 134217727)
instance (p d t : Int) : Decidable (inR p d t) := by unfold inR; infer_instance
theorem inR_iff {p d t : Int} : inR p d t ↔ (0 ≤ p ∧ p ≤ 63) ∧ (0 ≤ d ∧ d ≤ 73048) ∧ (0 ≤ t ∧ t ≤ 134217727) := Iff.rfl
/-- does a limit stand -/
def standE (ls : List Lim) (p d t : Int) (x : Lim) : Prop := x.person = p ∧ x.known ≤ t ∧ x.from_ ≤ d ∧ d ≤ x.to_ ∧ (x.kind, x.limb, x.n) ≠ (0, 0, 0) ∧ ¬ ∃ y ∈ ls, y.of_ = x.no + 1 ∧ y.known ≤ t
instance (ls : List Lim) (p d t : Int) (x : Lim) : Decidable (standE ls p d t x) := by unfold standE; infer_instance
theorem standE_iff {ls : List Lim} {p d t : Int} {x : Lim} : standE ls p d t x ↔ x.person = p ∧ x.known ≤ t ∧ x.from_ ≤ d ∧ d ≤ x.to_ ∧ (x.kind, x.limb, x.n) ≠ (0, 0, 0) ∧ ¬ ∃ y ∈ ls, y.of_ = x.no + 1 ∧ y.known ≤ t := Iff.rfl
def standTo (ls : List Lim) (p d t : Int) (i : Nat) : List Lim := (ls.take i).filter fun x => decide (standE ls p d t x)
def standL (ls : List Lim) (p d t : Int) : List Lim := ls.filter fun x => decide (standE ls p d t x)
noncomputable def standR (ls : List Lim) (p d t : Int) : List Lim × Int := if chkL ls ≠ 0 then ([], chkL ls) else if ¬ inR p d t then ([], 1) else (standL ls p d t, 0)
theorem standTo_yes {ls : List Lim} {p d t : Int} {i : Nat} {z : Lim} (hz : ls[i]? = some z) (h : standE ls p d t z) : standTo ls p d t (i + 1) = standTo ls p d t i ++ [z] := by
  unfold standTo
  rw [List.take_add_one, hz, List.filter_append]
  simp [h]
theorem standTo_no {ls : List Lim} {p d t : Int} {i : Nat} {z : Lim} (hz : ls[i]? = some z) (h : ¬ standE ls p d t z) : standTo ls p d t (i + 1) = standTo ls p d t i := by
  unfold standTo
  rw [List.take_add_one, hz, List.filter_append]
  simp [h]
theorem standTo_le {ls : List Lim} {p d t : Int} {i : Nat} : (standTo ls p d t i).length ≤ i := by
  unfold standTo
  exact Nat.le_trans (List.length_filter_le _ _) (by rw [List.length_take]; omega)
theorem standTo_all {ls : List Lim} {p d t : Int} {i : Nat} (h : ls.length ≤ i) : standTo ls p d t i = standL ls p d t := by
  unfold standTo standL
  rw [List.take_of_length_le h]
/-- what is replaced -/
def GoneI (ls : List Lim) (t : Int) (i : Nat) (g : List (Int × List Value)) : Prop := (∀ e ∈ g, e.2.length = 1) ∧ ∀ q cs, getM g q = some cs ↔ cs = [.bool true] ∧ ∃ y ∈ ls.take i, 0 < y.of_ ∧ y.known ≤ t ∧ y.of_ - 1 = q
theorem goneI_zero (ls : List Lim) (t : Int) : GoneI ls t 0 [] := ⟨by simp, fun q cs => by simp [getM]⟩
theorem goneI_no {ls : List Lim} {t : Int} {i : Nat} {g : List (Int × List Value)} {z : Lim} (h : GoneI ls t i g) (hz : ls[i]? = some z) (hn : ¬ (0 < z.of_ ∧ z.known ≤ t)) : GoneI ls t (i + 1) g :=
  ⟨h.1, fun q cs => by rw [h.2, ex_take1 hz]; exact ⟨fun h => ⟨h.1, .inl h.2⟩, fun h => ⟨h.1, h.2.elim id fun h => absurd ⟨h.1, h.2.1⟩ hn⟩⟩⟩
theorem goneI_yes {ls : List Lim} {t : Int} {i : Nat} {g : List (Int × List Value)} {z : Lim} (h : GoneI ls t i g) (hz : ls[i]? = some z) (h1 : 0 < z.of_) (h2 : z.known ≤ t) : GoneI ls t (i + 1) (putM g (z.of_ - 1) [.bool true]) := by
  refine ⟨Go.Proofs.Ytmkigejhgpoleaa.putM_all rfl h.1, fun q cs => ?_⟩
  rw [getM_putM, ex_take1 hz]
  by_cases hq : q = z.of_ - 1
  · rw [if_pos hq]
    exact ⟨fun h => ⟨(Option.some.inj h).symm, .inr ⟨h1, h2, hq.symm⟩⟩, fun h => by rw [h.1]⟩
  · rw [if_neg hq, h.2]
    exact ⟨fun h => ⟨h.1, .inl h.2⟩, fun h => ⟨h.1, h.2.elim id fun h => absurd h.2.2.symm hq⟩⟩
theorem look_gone {ls : List Lim} {t : Int} {i : Nat} {g : List (Int × List Value)} (h : GoneI ls t i g) (hi : ls.length ≤ i) {q : Int} (hq : 0 ≤ q) : ∃ b : Bool, Value.bool b = (match getM g q with
    | some cs => if false then .tuple #[elV false cs, .bool true] else elV false cs
    | none => if false then .tuple #[.bool false, .bool false] else .bool false) ∧ (b = true ↔ ∃ y ∈ ls, y.of_ = q + 1 ∧ y.known ≤ t) := by
  have key : (∃ y ∈ ls.take i, 0 < y.of_ ∧ y.known ≤ t ∧ y.of_ - 1 = q) ↔ ∃ y ∈ ls, y.of_ = q + 1 ∧ y.known ≤ t := by
    rw [List.take_of_length_le hi]
    exact ⟨fun ⟨y, a, b, c, d⟩ => ⟨y, a, by omega, c⟩, fun ⟨y, a, b, c⟩ => ⟨y, a, by omega, c, by omega⟩⟩
  cases hg : getM g q with
  | none => exact ⟨false, rfl, nofun, fun h' => by have := (h.2 q [.bool true]).2 ⟨rfl, key.2 h'⟩; rw [hg] at this; cases this⟩
  | some cs =>
    obtain ⟨rfl, h'⟩ := (h.2 q cs).1 hg
    exact ⟨true, rfl, fun _ => key.1 h', fun _ => rfl⟩
/-- what is known of forms -/
def RL1 (f : FuncId) (xs : List SX.Arg) (v : Value) : Prop :=
  (f = 14 ∧ ∃ (u : Value) (ls : List Lim), xs = [⟨u, 9, lmL ls⟩] ∧ ls.length ≤ 9223372036854775807 ∧ fitLm ls ∧ v = .int .i64 (chkL ls)) ∨
  (f = 15 ∧ ∃ (u : Value) (ls : List Lim), xs = [⟨u, 9, lmL ls⟩] ∧ ls.length ≤ 9223372036854775807 ∧ v = .int .i64 (chkL ls)) ∨
  (f = 40 ∧ ∃ (u : Value) (ls : List Lim) (no k : Int), xs = [⟨u, 9, lmL ls⟩, ⟨.int .i64 no, 0, []⟩, ⟨.int .i64 k, 0, []⟩] ∧ ls.length ≤ 9223372036854775807 ∧ 0 ≤ no ∧ no ≤ 1048576 ∧ v = .bool (decide (∃ y ∈ ls, y.of_ = no + 1 ∧ y.known ≤ k)))
def shpL1 : FuncId → Option SX.Sh := fun f => if f = 14 then some .one else if f = 15 then some .one else if f = 40 then some .one else none
noncomputable def cxL1 (K A : Value → Nat → List Value → Prop) : SX.Cx := { P := Try.prog, R := fun _ => RL1, shp := shpL1, K := K, A := A, trm := true }
theorem okL1 (K A : Value → Nat → List Value → Prop) : (cxL1 K A).Ok := by
  refine SX.Cx.ok_of (fun _ => rfl) ?_
  intro K f xs v W hR hrd hKf
  rcases hR with ⟨rfl, u, ls, rfl, hl, hf, rfl⟩ | ⟨rfl, u, ls, rfl, hl, rfl⟩ | ⟨rfl, u, ls, no, k, rfl, hl, h0, h1, rfl⟩
  · obtain ⟨A, n, c, rfl, h2, h3, h4⟩ := lms_arg (hrd ⟨u, 9, lmL ls⟩ (by simp))
    exact (lCheck_any ls A n c W h2 (by omega) h3 hf).mono fun e w' h => SX.plainOk rfl h
  · obtain ⟨A, n, c, rfl, h2, h3, h4⟩ := lms_arg (hrd ⟨u, 9, lmL ls⟩ (by simp))
    exact (rCheck_any ls A n c W h2 (by omega) h3).mono fun e w' h => SX.plainOk rfl h
  · obtain ⟨A, n, c, rfl, h2, h3, h4⟩ := lms_arg (hrd ⟨u, 9, lmL ls⟩ (by simp))
    exact (replaced_any ls A n c no k W h2 (by omega) h3 h0 h1).mono fun e w' h => SX.plainOk rfl h
def tree_rStand : SX.Tree :=
(.df (.call 15 [(.ext 9)]) [(.x 0 [])] .one 
(.df (.bin .neq 29) [(.x 4 []), (.k (.int .i64 0))] .one 
(.br 5 [] 
(.ret (.t [(.k (.slice none 0 0)), (.x 4 [])]) [] []) 
(.df (.bin .geq 3) [(.x 1 []), (.k (.int .i64 0))] .one 
(.br 6 [] 
(.df (.bin .leq 3) [(.x 1 []), (.k (.int .i64 63))] .one 
(.df .not [(.x 7 [])] .one 
(.br 8 [] 
(.ret (.t [(.k (.slice none 0 0)), (.k (.int .i64 1))]) [] []) 
(.df (.bin .geq 3) [(.x 2 []), (.k (.int .i64 0))] .one 
(.br 9 [] 
(.df (.bin .leq 3) [(.x 2 []), (.k (.int .i64 73048))] .one 
(.df .not [(.x 10 [])] .one 
(.br 11 [] 
(.ret (.t [(.k (.slice none 0 0)), (.k (.int .i64 1))]) [] []) 
(.df (.bin .geq 3) [(.x 3 []), (.k (.int .i64 0))] .one 
(.br 12 [] 
(.df (.bin .leq 3) [(.x 3 []), (.k (.int .i64 134217727))] .one 
(.df .not [(.x 13 [])] .one 
(.br 14 [] 
(.ret (.t [(.k (.slice none 0 0)), (.k (.int .i64 1))]) [] []) 
(.loop [(.k (.int .i64 0)), (.cat [])] [.one, .any] 
(.df (.len false) [(.x 0 [])] .one 
(.df (.bin .lss 3) [(.x 15 []), (.x 17 [])] .one 
(.br 18 [] 
(.df .bnd [(.x 0 []), (.x 15 [])] .one 
(.df (.elems 9 0 9) [(.x 0 []), (.x 15 [])] (.ag 9) 
(.df (.bin .eql 3) [(.x 20 [1]), (.x 1 [])] .one 
(.br 21 [] 
(.df (.bin .leq 3) [(.x 20 [5]), (.x 3 [])] .one 
(.br 22 [] 
(.df (.bin .leq 3) [(.x 20 [3]), (.x 2 [])] .one 
(.br 23 [] 
(.df (.bin .leq 3) [(.x 2 []), (.x 20 [4])] .one 
(.br 24 [] 
(.df (.eqr true 3 [(.i .i64), (.i .i64), (.i .i64)]) [(.x 20 [6]), (.x 20 [7]), (.x 20 [8]), (.k (.int .i64 0)), (.k (.int .i64 0)), (.k (.int .i64 0))] .one 
(.br 25 [] 
(.df (.call 40 [(.ext 9), .no, .no]) [(.x 0 []), (.x 20 [0]), (.x 3 [])] .one 
(.df .not [(.x 26 [])] .one 
(.br 27 [] 
(.df (.app 9 72 (.own 9 [(.x 20 [0]), (.x 20 [1]), (.x 20 [2]), (.x 20 [3]), (.x 20 [4]), (.x 20 [5]), (.x 20 [6]), (.x 20 [7]), (.x 20 [8])])) [(.cat [(.x 16 [])]), (.sl 5 0 1 1)] .any 
(.df (.bin .add 3) [(.x 15 []), (.k (.int .i64 1))] .one 
(.again 0 [(.x 29 []), (.cat [(.x 16 []), (.x 28 [])])]))) 
(.df (.bin .add 3) [(.x 15 []), (.k (.int .i64 1))] .one 
(.again 0 [(.x 28 []), (.cat [(.x 16 [])])]))))) 
(.df (.bin .add 3) [(.x 15 []), (.k (.int .i64 1))] .one 
(.again 0 [(.x 26 []), (.cat [(.x 16 [])])])))) 
(.df (.bin .add 3) [(.x 15 []), (.k (.int .i64 1))] .one 
(.again 0 [(.x 25 []), (.cat [(.x 16 [])])])))) 
(.df (.bin .add 3) [(.x 15 []), (.k (.int .i64 1))] .one 
(.again 0 [(.x 24 []), (.cat [(.x 16 [])])])))) 
(.df (.bin .add 3) [(.x 15 []), (.k (.int .i64 1))] .one 
(.again 0 [(.x 23 []), (.cat [(.x 16 [])])])))) 
(.df (.bin .add 3) [(.x 15 []), (.k (.int .i64 1))] .one 
(.again 0 [(.x 22 []), (.cat [(.x 16 [])])])))))) 
(.ret (.t [(.row 3), (.k (.int .i64 0))]) [none, none, none, (some ⟨[(.x 16 [])], 26, (.row 9)⟩)] [])))))))) 
(.ret (.t [(.k (.slice none 0 0)), (.k (.int .i64 1))]) [] [])))))) 
(.ret (.t [(.k (.slice none 0 0)), (.k (.int .i64 1))]) [] [])))))) 
(.ret (.t [(.k (.slice none 0 0)), (.k (.int .i64 1))]) [] []))))))
def args_rStand : List SX.V := [.x 0 [], .x 1 [], .x 2 [], .x 3 []]
set_option maxRecDepth 100000 in
theorem run_rStand (K A : Value → Nat → List Value → Prop) : (SX.run (cxL1 K A) ⟨fun f => f = 35, [⟨18, 9, [(.s 13, .one), (.s 11, .row 9 26)]⟩], 2, 100⟩ 100000 0 (SX.door 18 Try.f18 args_rStand [.one, .one, .one, .one]) [.code (Try.f18.body.getD .skip), .top Try.f18]).strip = tree_rStand := by kernel_rfl
set_option maxRecDepth 100000 in
set_option maxHeartbeats 4000000 in
theorem rStand_any (ls : List Lim) (A : Option Addr) (n c : Nat) (p d t : Int) (w : World) (hr : Rd w 9 A n (lmL ls)) (hn : n ≤ 9223372036854775807) (hc : n ≤ c) : Calls Try.prog 18 #[.slice A n c, .int .i64 p, .int .i64 d, .int .i64 t] w fun e w' => Below w.heap.size w w' ∧ ∃ hdr, e = .returned (.tuple #[hdr, .int .i64 (standR ls p d t).2]) ∧ SX.SlRet w w' [] hdr 9 (lmL (standR ls p d t).1) := by
  refine SX.calls_of_run (C := cxL1 (fun s sz cells => s = .slice A n c ∧ sz = 9 ∧ cells = lmL ls) (fun _ _ _ => False)) (G := ⟨fun f => f = 35, [⟨18, 9, [(.s 13, .one), (.s 11, .row 9 26)]⟩], 2, 100⟩) (args := args_rStand) (sh := [.one, .one, .one, .one]) (ρ := [.slice A n c, .int .i64 p, .int .i64 d, .int .i64 t]) 100000 tree_rStand (okL1 _ _) Try.func18 rfl (run_rStand _ _) (by kernel_rfl) (by kernel_rfl) (by kernel_rfl) ?_ ?_
  · rintro W hW s sz cells ⟨rfl, rfl, rfl⟩; exact ⟨hr.same0 hW, hc⟩
  have hA := SX.rd_some hr
  have hln : ls.length = n := by have := hr.1; rw [lmL_len] at this; omega
  unfold tree_rStand
  refine SX.VC_df (.int .i64 ((chkL ls))) (fun α => ⟨[⟨.slice A n c, 9, lmL ls⟩], ⟨by kernel_rfl, rfl, ⟨by kernel_rfl, rfl, rfl⟩, trivial⟩, .inr (.inl ⟨rfl, _, ls, rfl, by omega, rfl⟩), SX.noAli rfl⟩) (by kernel_rfl) ?_
  refine SX.VC_df (.bool (((chkL ls) : Int) != 0)) (by intro α; show _ = _; kernel_rfl) (by kernel_rfl) ?_
  refine SX.VC_br (((chkL ls) : Int) != 0) (by kernel_rfl) (fun h5 => ?_) (fun h5 => ?_)
  · try simp only [NRM] at h5
    have hfact : standR ls p d t = ([], chkL ls) := by rw [standR, if_pos (by simpa using h5)]
    exact SX.VC_ret fun α W _ hR hS => ⟨hS.below, (.slice none 0 0), Eq.trans (b := Ending.returned (.tuple #[(.slice none 0 0), .int .i64 ((chkL ls))])) (by kernel_rfl) (by rw [hfact]), (by rw [hfact]; exact SX.SlRet.nil)⟩
  · try simp only [NRM] at h5
    refine SX.VC_df (.bool (decide (p ≥ 0))) (by intro α; show _ = _; kernel_rfl) (by kernel_rfl) ?_
    refine SX.VC_br (decide (p ≥ 0)) (by kernel_rfl) (fun h6 => ?_) (fun h6 => ?_)
    · try simp only [NRM] at h6
      refine SX.VC_df (.bool (decide (p ≤ 63))) (by intro α; show _ = _; kernel_rfl) (by kernel_rfl) ?_
      refine SX.VC_df (.bool (!(decide (p ≤ 63)))) (by intro α; show _ = _; kernel_rfl) (by kernel_rfl) ?_
      refine SX.VC_br (!(decide (p ≤ 63))) (by kernel_rfl) (fun h8 => ?_) (fun h8 => ?_)
      · try simp only [NRM] at h8
        have hfact : standR ls p d t = ([], 1) := by rw [standR, if_neg (by simpa using h5), if_pos (fun hk => by rw [inR_iff] at hk; omega)]
        exact SX.VC_ret fun α W _ hR hS => ⟨hS.below, (.slice none 0 0), Eq.trans (b := Ending.returned (.tuple #[(.slice none 0 0), .int .i64 1])) (by kernel_rfl) (by rw [hfact]), (by rw [hfact]; exact SX.SlRet.nil)⟩
      · try simp only [NRM] at h8
        refine SX.VC_df (.bool (decide (d ≥ 0))) (by intro α; show _ = _; kernel_rfl) (by kernel_rfl) ?_
        refine SX.VC_br (decide (d ≥ 0)) (by kernel_rfl) (fun h9 => ?_) (fun h9 => ?_)
        · try simp only [NRM] at h9
          refine SX.VC_df (.bool (decide (d ≤ 73048))) (by intro α; show _ = _; kernel_rfl) (by kernel_rfl) ?_
          refine SX.VC_df (.bool (!(decide (d ≤ 73048)))) (by intro α; show _ = _; kernel_rfl) (by kernel_rfl) ?_
          refine SX.VC_br (!(decide (d ≤ 73048))) (by kernel_rfl) (fun h11 => ?_) (fun h11 => ?_)
          · try simp only [NRM] at h11
            have hfact : standR ls p d t = ([], 1) := by rw [standR, if_neg (by simpa using h5), if_pos (fun hk => by rw [inR_iff] at hk; omega)]
            exact SX.VC_ret fun α W _ hR hS => ⟨hS.below, (.slice none 0 0), Eq.trans (b := Ending.returned (.tuple #[(.slice none 0 0), .int .i64 1])) (by kernel_rfl) (by rw [hfact]), (by rw [hfact]; exact SX.SlRet.nil)⟩
          · try simp only [NRM] at h11
            refine SX.VC_df (.bool (decide (t ≥ 0))) (by intro α; show _ = _; kernel_rfl) (by kernel_rfl) ?_
            refine SX.VC_br (decide (t ≥ 0)) (by kernel_rfl) (fun h12 => ?_) (fun h12 => ?_)
            · try simp only [NRM] at h12
              refine SX.VC_df (.bool (decide (t ≤ 134217727))) (by intro α; show _ = _; kernel_rfl) (by kernel_rfl) ?_
              refine SX.VC_df (.bool (!(decide (t ≤ 134217727)))) (by intro α; show _ = _; kernel_rfl) (by kernel_rfl) ?_
              refine SX.VC_br (!(decide (t ≤ 134217727))) (by kernel_rfl) (fun h14 => ?_) (fun h14 => ?_)
              · try simp only [NRM] at h14
                have hfact : standR ls p d t = ([], 1) := by rw [standR, if_neg (by simpa using h5), if_pos (fun hk => by rw [inR_iff] at hk; omega)]
                exact SX.VC_ret fun α W _ hR hS => ⟨hS.below, (.slice none 0 0), Eq.trans (b := Ending.returned (.tuple #[(.slice none 0 0), .int .i64 1])) (by kernel_rfl) (by rw [hfact]), (by rw [hfact]; exact SX.SlRet.nil)⟩
              · try simp only [NRM] at h14
                have hk0 : chkL ls = 0 := by simpa using h5
                obtain ⟨hl5, hokl⟩ := chkL_zero hk0
                have hir : inR p d t := by rw [inR_iff]; (try simp at h8); (try simp at h11); (try simp at h14); omega
                refine SX.VC_loop (fun xs => ∃ (i : Nat), xs = [.int .i64 (i : Int), .agg (lmL (standTo ls p d t i)).toArray] ∧ i ≤ n) (fun xs => match xs with | (.int _ i) :: _ => n - i.toNat | _ => 0) (fun α => ⟨0, Eq.trans (b := [.int .i64 0, .agg #[]]) (by kernel_rfl) (by simp [standTo, lmL]), by omega⟩) ?_
                rintro xs - ⟨i, rfl, hin⟩
                have hsl : (standTo ls p d t i).length ≤ i := standTo_le
                refine SX.VC_df (.int .i64 (((n : Nat) : Int))) (by intro α; show _ = _; kernel_rfl) (by kernel_rfl) ?_
                refine SX.VC_df (.bool (decide (((i : Nat) : Int) < ((n : Nat) : Int)))) (by intro α; show _ = _; kernel_rfl) (by kernel_rfl) ?_
                refine SX.VC_br (decide (((i : Nat) : Int) < ((n : Nat) : Int))) (by kernel_rfl) (fun h18 => ?_) (fun h18 => ?_)
                · try simp only [NRM] at h18
                  obtain ⟨z, hz⟩ : ∃ z, ls[i]? = some z := ⟨_, List.getElem?_eq_getElem (by omega)⟩
                  have hz0 := (elemOk_iff.1 (hokl i z hz).1).1
                  refine SX.VC_df (.bool true) (fun α => SX.extBnd (A := A) (n := n) (c := c) (j := i) hA (by kernel_rfl) (by kernel_rfl) (by omega)) (by kernel_rfl) ?_
                  refine SX.VC_df (.agg (cellsLm z).toArray) (fun α => SX.extElems (f := cellsLm) (l := ls) (A := A) (n := n) (c := c) (j := i) (z := z) (fun _ => rfl) hA (by kernel_rfl) (by kernel_rfl) (by omega) ⟨rfl, rfl, rfl⟩ hz) (by kernel_rfl) ?_
                  refine SX.VC_df (.bool ((z.person : Int) == p)) (by intro α; show _ = _; kernel_rfl) (by kernel_rfl) ?_
                  refine SX.VC_br ((z.person : Int) == p) (by kernel_rfl) (fun h21 => ?_) (fun h21 => ?_)
                  · try simp only [NRM] at h21
                    refine SX.VC_df (.bool (decide (z.known ≤ t))) (by intro α; show _ = _; kernel_rfl) (by kernel_rfl) ?_
                    refine SX.VC_br (decide (z.known ≤ t)) (by kernel_rfl) (fun h22 => ?_) (fun h22 => ?_)
                    · try simp only [NRM] at h22
                      refine SX.VC_df (.bool (decide (z.from_ ≤ d))) (by intro α; show _ = _; kernel_rfl) (by kernel_rfl) ?_
                      refine SX.VC_br (decide (z.from_ ≤ d)) (by kernel_rfl) (fun h23 => ?_) (fun h23 => ?_)
                      · try simp only [NRM] at h23
                        refine SX.VC_df (.bool (decide (d ≤ z.to_))) (by intro α; show _ = _; kernel_rfl) (by kernel_rfl) ?_
                        refine SX.VC_br (decide (d ≤ z.to_)) (by kernel_rfl) (fun h24 => ?_) (fun h24 => ?_)
                        · try simp only [NRM] at h24
                          refine SX.VC_df (.bool (true ^^ decide ((z.kind, z.limb, z.n) = ((0 : Int), (0 : Int), (0 : Int))))) (fun α => SX.eqr_rel (f := cellsCap) cellsCap_inj (y := (z.kind, z.limb, z.n)) (z := ((0 : Int), (0 : Int), (0 : Int))) (by kernel_rfl) (by kernel_rfl) (by kernel_rfl)) (by kernel_rfl) ?_
                          refine SX.VC_br (true ^^ decide ((z.kind, z.limb, z.n) = ((0 : Int), (0 : Int), (0 : Int)))) (by kernel_rfl) (fun h25 => ?_) (fun h25 => ?_)
                          · try simp only [NRM] at h25
                            refine SX.VC_df (.bool (decide (∃ y ∈ ls, y.of_ = z.no + 1 ∧ y.known ≤ t))) (fun α => ⟨[⟨.slice A n c, 9, lmL ls⟩, ⟨.int .i64 z.no, 0, []⟩, ⟨.int .i64 t, 0, []⟩], ⟨by kernel_rfl, rfl, ⟨by kernel_rfl, rfl, rfl⟩, by kernel_rfl, by kernel_rfl, by kernel_rfl, by kernel_rfl, trivial⟩, .inr (.inr (⟨rfl, .slice A n c, ls, z.no, t, rfl, by omega, by omega, by omega, rfl⟩)), SX.noAli rfl⟩) (by kernel_rfl) ?_
                            refine SX.VC_df (.bool (!(decide (∃ y ∈ ls, y.of_ = z.no + 1 ∧ y.known ≤ t)))) (by intro α; show _ = _; kernel_rfl) (by kernel_rfl) ?_
                            refine SX.VC_br (!(decide (∃ y ∈ ls, y.of_ = z.no + 1 ∧ y.known ≤ t))) (by kernel_rfl) (fun h27 => ?_) (fun h27 => ?_)
                            · try simp only [NRM] at h27
                              refine SX.VC_df (Value.agg (([z]).flatMap cellsLm).toArray) (fun α => SX.app_rel (f := cellsLm) (l1 := (standTo ls p d t i)) (l2 := [z]) (fun _ => rfl) cellsLm_one (by decide) (SX.cat1 (by kernel_rfl)) (SX.src_own (by kernel_rfl)) (by simp only [List.length_append, List.length_take, List.length_drop, List.length_cons, List.length_nil]; omega) (by simp only [List.length_append, List.length_take, List.length_drop, List.length_cons, List.length_nil]; omega)) (by kernel_rfl) ?_
                              refine SX.VC_df (.int .i64 (((i + 1 : Nat) : Int))) (fun α => Eq.trans (b := some (.int .i64 (IntKind.i64.wrap ((i : Int) + 1)))) (by kernel_rfl) (by rw [show ((i + 1 : Nat) : Int) = (i : Int) + 1 by omega, wrap_i64 (by omega) (by omega)])) (by kernel_rfl) ?_
                              have hst : standE ls p d t z := ⟨by simpa using h21, by omega, by omega, by omega, by simpa using h25, by simpa using h27⟩
                              exact SX.VC_again fun α => ⟨⟨i + 1, Eq.trans (b := [.int .i64 ((i + 1 : Nat) : Int), .agg ([Value.agg (lmL (standTo ls p d t i)).toArray, Value.agg (([z]).flatMap cellsLm).toArray].flatMap SX.cellsV).toArray]) (by kernel_rfl) (by rw [standTo_yes hz hst]; simp [SX.cellsV, lmL]), by omega⟩, cast (by kernel_rfl) (show n - ((i + 1 : Nat) : Int).toNat < n - (i : Int).toNat by omega)⟩
                            · try simp only [NRM] at h27
                              refine SX.VC_df (.int .i64 (((i + 1 : Nat) : Int))) (fun α => Eq.trans (b := some (.int .i64 (IntKind.i64.wrap ((i : Int) + 1)))) (by kernel_rfl) (by rw [show ((i + 1 : Nat) : Int) = (i : Int) + 1 by omega, wrap_i64 (by omega) (by omega)])) (by kernel_rfl) ?_
                              have hst : ¬ standE ls p d t z := fun hk => absurd hk.2.2.2.2.2 (by simpa using h27)
                              exact SX.VC_again fun α => ⟨⟨i + 1, Eq.trans (b := [.int .i64 ((i + 1 : Nat) : Int), .agg ([Value.agg (lmL (standTo ls p d t i)).toArray].flatMap SX.cellsV).toArray]) (by kernel_rfl) (by rw [standTo_no hz hst]; simp [SX.cellsV]), by omega⟩, cast (by kernel_rfl) (show n - ((i + 1 : Nat) : Int).toNat < n - (i : Int).toNat by omega)⟩
                          · try simp only [NRM] at h25
                            refine SX.VC_df (.int .i64 (((i + 1 : Nat) : Int))) (fun α => Eq.trans (b := some (.int .i64 (IntKind.i64.wrap ((i : Int) + 1)))) (by kernel_rfl) (by rw [show ((i + 1 : Nat) : Int) = (i : Int) + 1 by omega, wrap_i64 (by omega) (by omega)])) (by kernel_rfl) ?_
                            have hst : ¬ standE ls p d t z := fun hk => hk.2.2.2.2.1 (by simpa using h25)
                            exact SX.VC_again fun α => ⟨⟨i + 1, Eq.trans (b := [.int .i64 ((i + 1 : Nat) : Int), .agg ([Value.agg (lmL (standTo ls p d t i)).toArray].flatMap SX.cellsV).toArray]) (by kernel_rfl) (by rw [standTo_no hz hst]; simp [SX.cellsV]), by omega⟩, cast (by kernel_rfl) (show n - ((i + 1 : Nat) : Int).toNat < n - (i : Int).toNat by omega)⟩
                        · try simp only [NRM] at h24
                          refine SX.VC_df (.int .i64 (((i + 1 : Nat) : Int))) (fun α => Eq.trans (b := some (.int .i64 (IntKind.i64.wrap ((i : Int) + 1)))) (by kernel_rfl) (by rw [show ((i + 1 : Nat) : Int) = (i : Int) + 1 by omega, wrap_i64 (by omega) (by omega)])) (by kernel_rfl) ?_
                          have hst : ¬ standE ls p d t z := fun hk => by have := hk.2.2.2.1; omega
                          exact SX.VC_again fun α => ⟨⟨i + 1, Eq.trans (b := [.int .i64 ((i + 1 : Nat) : Int), .agg ([Value.agg (lmL (standTo ls p d t i)).toArray].flatMap SX.cellsV).toArray]) (by kernel_rfl) (by rw [standTo_no hz hst]; simp [SX.cellsV]), by omega⟩, cast (by kernel_rfl) (show n - ((i + 1 : Nat) : Int).toNat < n - (i : Int).toNat by omega)⟩
                      · try simp only [NRM] at h23
                        refine SX.VC_df (.int .i64 (((i + 1 : Nat) : Int))) (fun α => Eq.trans (b := some (.int .i64 (IntKind.i64.wrap ((i : Int) + 1)))) (by kernel_rfl) (by rw [show ((i + 1 : Nat) : Int) = (i : Int) + 1 by omega, wrap_i64 (by omega) (by omega)])) (by kernel_rfl) ?_
                        have hst : ¬ standE ls p d t z := fun hk => by have := hk.2.2.1; omega
                        exact SX.VC_again fun α => ⟨⟨i + 1, Eq.trans (b := [.int .i64 ((i + 1 : Nat) : Int), .agg ([Value.agg (lmL (standTo ls p d t i)).toArray].flatMap SX.cellsV).toArray]) (by kernel_rfl) (by rw [standTo_no hz hst]; simp [SX.cellsV]), by omega⟩, cast (by kernel_rfl) (show n - ((i + 1 : Nat) : Int).toNat < n - (i : Int).toNat by omega)⟩
                    · try simp only [NRM] at h22
                      refine SX.VC_df (.int .i64 (((i + 1 : Nat) : Int))) (fun α => Eq.trans (b := some (.int .i64 (IntKind.i64.wrap ((i : Int) + 1)))) (by kernel_rfl) (by rw [show ((i + 1 : Nat) : Int) = (i : Int) + 1 by omega, wrap_i64 (by omega) (by omega)])) (by kernel_rfl) ?_
                      have hst : ¬ standE ls p d t z := fun hk => by have := hk.2.1; omega
                      exact SX.VC_again fun α => ⟨⟨i + 1, Eq.trans (b := [.int .i64 ((i + 1 : Nat) : Int), .agg ([Value.agg (lmL (standTo ls p d t i)).toArray].flatMap SX.cellsV).toArray]) (by kernel_rfl) (by rw [standTo_no hz hst]; simp [SX.cellsV]), by omega⟩, cast (by kernel_rfl) (show n - ((i + 1 : Nat) : Int).toNat < n - (i : Int).toNat by omega)⟩
                  · try simp only [NRM] at h21
                    refine SX.VC_df (.int .i64 (((i + 1 : Nat) : Int))) (fun α => Eq.trans (b := some (.int .i64 (IntKind.i64.wrap ((i : Int) + 1)))) (by kernel_rfl) (by rw [show ((i + 1 : Nat) : Int) = (i : Int) + 1 by omega, wrap_i64 (by omega) (by omega)])) (by kernel_rfl) ?_
                    have hst : ¬ standE ls p d t z := fun hk => absurd hk.1 (by simpa using h21)
                    exact SX.VC_again fun α => ⟨⟨i + 1, Eq.trans (b := [.int .i64 ((i + 1 : Nat) : Int), .agg ([Value.agg (lmL (standTo ls p d t i)).toArray].flatMap SX.cellsV).toArray]) (by kernel_rfl) (by rw [standTo_no hz hst]; simp [SX.cellsV]), by omega⟩, cast (by kernel_rfl) (show n - ((i + 1 : Nat) : Int).toNat < n - (i : Int).toNat by omega)⟩
                · try simp only [NRM] at h18
                  have hfact : standR ls p d t = (standTo ls p d t i, 0) := by rw [standR, if_neg (by omega), if_neg (not_not_intro hir), standTo_all (by omega)]
                  exact SX.VC_ret fun α W _ hR hS => ⟨hS.below, (α 3).h, Eq.trans (b := Ending.returned (.tuple #[(α 3).h, .int .i64 0])) (by kernel_rfl) (by rw [hfact]), SX.SlRet.row hS (n := 3) (b := (⟨[(.x 16 [])], 26, (.row 9)⟩ : SX.Blk)) (by kernel_rfl) rfl (hR 3 _ (by kernel_rfl)) (Eq.trans (b := [Value.agg (lmL (standTo ls p d t i)).toArray].flatMap SX.cellsV) (by kernel_rfl) (by rw [hfact]; simp [SX.cellsV]))⟩
            · try simp only [NRM] at h12
              have hfact : standR ls p d t = ([], 1) := by rw [standR, if_neg (by simpa using h5), if_pos (fun hk => by rw [inR_iff] at hk; omega)]
              exact SX.VC_ret fun α W _ hR hS => ⟨hS.below, (.slice none 0 0), Eq.trans (b := Ending.returned (.tuple #[(.slice none 0 0), .int .i64 1])) (by kernel_rfl) (by rw [hfact]), (by rw [hfact]; exact SX.SlRet.nil)⟩
        · try simp only [NRM] at h9
          have hfact : standR ls p d t = ([], 1) := by rw [standR, if_neg (by simpa using h5), if_pos (fun hk => by rw [inR_iff] at hk; omega)]
          exact SX.VC_ret fun α W _ hR hS => ⟨hS.below, (.slice none 0 0), Eq.trans (b := Ending.returned (.tuple #[(.slice none 0 0), .int .i64 1])) (by kernel_rfl) (by rw [hfact]), (by rw [hfact]; exact SX.SlRet.nil)⟩
    · try simp only [NRM] at h6
      have hfact : standR ls p d t = ([], 1) := by rw [standR, if_neg (by simpa using h5), if_pos (fun hk => by rw [inR_iff] at hk; omega)]
      exact SX.VC_ret fun α W _ hR hS => ⟨hS.below, (.slice none 0 0), Eq.trans (b := Ending.returned (.tuple #[(.slice none 0 0), .int .i64 1])) (by kernel_rfl) (by rw [hfact]), (by rw [hfact]; exact SX.SlRet.nil)⟩
def tree_lStand : SX.Tree :=
(.df (.call 14 [(.ext 9)]) [(.x 0 [])] .one 
(.df (.bin .neq 29) [(.x 4 []), (.k (.int .i64 0))] .one 
(.br 5 [] 
(.ret (.t [(.k (.slice none 0 0)), (.x 4 [])]) [] []) 
(.df (.bin .leq 3) [(.k (.int .i64 0)), (.x 1 [])] .one 
(.br 6 [] 
(.df (.bin .leq 3) [(.x 1 []), (.k (.int .i64 63))] .one 
(.df .not [(.x 7 [])] .one 
(.br 8 [] 
(.ret (.t [(.k (.slice none 0 0)), (.k (.int .i64 1))]) [] []) 
(.df (.bin .leq 3) [(.k (.int .i64 0)), (.x 2 [])] .one 
(.br 9 [] 
(.df (.bin .leq 3) [(.x 2 []), (.k (.int .i64 73048))] .one 
(.df .not [(.x 10 [])] .one 
(.br 11 [] 
(.ret (.t [(.k (.slice none 0 0)), (.k (.int .i64 1))]) [] []) 
(.df (.bin .leq 3) [(.k (.int .i64 0)), (.x 3 [])] .one 
(.br 12 [] 
(.df (.bin .leq 3) [(.x 3 []), (.k (.int .i64 134217727))] .one 
(.df .not [(.x 13 [])] .one 
(.br 14 [] 
(.ret (.t [(.k (.slice none 0 0)), (.k (.int .i64 1))]) [] []) 
(.df (.len false) [(.x 0 [])] .one 
(.loop [(.k (.int .i64 0)), (.a [])] [.one, .any] 
(.df (.bin .lss 3) [(.x 16 []), (.x 15 [])] .one 
(.br 18 [] 
(.df .bnd [(.x 0 []), (.x 16 [])] .one 
(.df (.elems 9 0 9) [(.x 0 []), (.x 16 [])] (.ag 9) 
(.df (.bin .gtr 3) [(.x 20 [2]), (.k (.int .i64 0))] .one 
(.br 21 [] 
(.df (.bin .leq 3) [(.x 20 [5]), (.x 3 [])] .one 
(.br 22 [] 
(.df (.bin .sub 3) [(.x 20 [2]), (.k (.int .i64 1))] .one 
(.df (.mset .i64 1 false) [(.cat [(.x 17 [])]), (.x 23 []), (.k (.bool true))] .any 
(.df (.bin .add 3) [(.x 16 []), (.k (.int .i64 1))] .one 
(.again 0 [(.x 25 []), (.x 24 [])])))) 
(.df (.bin .add 3) [(.x 16 []), (.k (.int .i64 1))] .one 
(.again 0 [(.x 23 []), (.x 17 [])])))) 
(.df (.bin .add 3) [(.x 16 []), (.k (.int .i64 1))] .one 
(.again 0 [(.x 22 []), (.x 17 [])])))))) 
(.df (.len false) [(.x 0 [])] .one 
(.loop [(.k (.int .i64 0)), (.cat [])] [.one, .any] 
(.df (.bin .lss 3) [(.x 20 []), (.x 19 [])] .one 
(.br 22 [] 
(.df .bnd [(.x 0 []), (.x 20 [])] .one 
(.df (.elems 9 0 9) [(.x 0 []), (.x 20 [])] (.ag 9) 
(.df (.bin .eql 3) [(.x 24 [1]), (.x 1 [])] .one 
(.br 25 [] 
(.df (.bin .leq 3) [(.x 24 [5]), (.x 3 [])] .one 
(.br 26 [] 
(.df (.bin .leq 3) [(.x 24 [3]), (.x 2 [])] .one 
(.br 27 [] 
(.df (.bin .leq 3) [(.x 2 []), (.x 24 [4])] .one 
(.br 28 [] 
(.df (.eqr true 3 [(.i .i64), (.i .i64), (.i .i64)]) [(.x 24 [6]), (.x 24 [7]), (.x 24 [8]), (.k (.int .i64 0)), (.k (.int .i64 0)), (.k (.int .i64 0))] .one 
(.br 29 [] 
(.df (.mlk false .i64 1 false (.bool false)) [(.cat [(.x 17 [])]), (.x 24 [0])] .one 
(.df .not [(.x 30 [])] .one 
(.br 31 [] 
(.df (.app 9 72 (.own 9 [(.x 24 [0]), (.x 24 [1]), (.x 24 [2]), (.x 24 [3]), (.x 24 [4]), (.x 24 [5]), (.x 24 [6]), (.x 24 [7]), (.x 24 [8])])) [(.cat [(.x 21 [])]), (.sl 15 0 1 1)] .any 
(.df (.bin .add 3) [(.x 20 []), (.k (.int .i64 1))] .one 
(.again 1 [(.x 33 []), (.cat [(.x 21 []), (.x 32 [])])]))) 
(.df (.bin .add 3) [(.x 20 []), (.k (.int .i64 1))] .one 
(.again 1 [(.x 32 []), (.cat [(.x 21 [])])]))))) 
(.df (.bin .add 3) [(.x 20 []), (.k (.int .i64 1))] .one 
(.again 1 [(.x 30 []), (.cat [(.x 21 [])])])))) 
(.df (.bin .add 3) [(.x 20 []), (.k (.int .i64 1))] .one 
(.again 1 [(.x 29 []), (.cat [(.x 21 [])])])))) 
(.df (.bin .add 3) [(.x 20 []), (.k (.int .i64 1))] .one 
(.again 1 [(.x 28 []), (.cat [(.x 21 [])])])))) 
(.df (.bin .add 3) [(.x 20 []), (.k (.int .i64 1))] .one 
(.again 1 [(.x 27 []), (.cat [(.x 21 [])])])))) 
(.df (.bin .add 3) [(.x 20 []), (.k (.int .i64 1))] .one 
(.again 1 [(.x 26 []), (.cat [(.x 21 [])])])))))) 
(.ret (.t [(.row 12), (.k (.int .i64 0))]) [none, none, none, none, none, none, none, none, none, none, none, none, (some ⟨[(.x 21 [])], 26, (.row 9)⟩)] [])))))))))))) 
(.ret (.t [(.k (.slice none 0 0)), (.k (.int .i64 1))]) [] [])))))) 
(.ret (.t [(.k (.slice none 0 0)), (.k (.int .i64 1))]) [] [])))))) 
(.ret (.t [(.k (.slice none 0 0)), (.k (.int .i64 1))]) [] []))))))
def args_lStand : List SX.V := [.x 0 [], .x 1 [], .x 2 [], .x 3 []]
set_option maxRecDepth 100000 in
theorem run_lStand (K A : Value → Nat → List Value → Prop) : (SX.run (cxL1 K A) ⟨fun f => true, [⟨39, 3, [(.s 15, .one), (.c 4 0, .any)]⟩, ⟨54, 1, [(.s 12, .one), (.c 8 0, .row 9 26)]⟩], 2, 100⟩ 100000 0 (SX.door 17 Try.f17 args_lStand [.one, .one, .one, .one]) [.code (Try.f17.body.getD .skip), .top Try.f17]).strip = tree_lStand := by kernel_rfl
set_option maxRecDepth 100000 in
set_option maxHeartbeats 4000000 in
theorem lStand_any (ls : List Lim) (A : Option Addr) (n c : Nat) (p d t : Int) (w : World) (hr : Rd w 9 A n (lmL ls)) (hn : n ≤ 9223372036854775807) (hc : n ≤ c) (hfit : fitLm ls) : Calls Try.prog 17 #[.slice A n c, .int .i64 p, .int .i64 d, .int .i64 t] w fun e w' => Below w.heap.size w w' ∧ ∃ hdr, e = .returned (.tuple #[hdr, .int .i64 (standR ls p d t).2]) ∧ SX.SlRet w w' [] hdr 9 (lmL (standR ls p d t).1) := by
  refine SX.calls_of_run (C := cxL1 (fun s sz cells => s = .slice A n c ∧ sz = 9 ∧ cells = lmL ls) (fun _ _ _ => False)) (G := ⟨fun f => true, [⟨39, 3, [(.s 15, .one), (.c 4 0, .any)]⟩, ⟨54, 1, [(.s 12, .one), (.c 8 0, .row 9 26)]⟩], 2, 100⟩) (args := args_lStand) (sh := [.one, .one, .one, .one]) (ρ := [.slice A n c, .int .i64 p, .int .i64 d, .int .i64 t]) 100000 tree_lStand (okL1 _ _) Try.func17 rfl (run_lStand _ _) (by kernel_rfl) (by kernel_rfl) (by kernel_rfl) ?_ ?_
  · rintro W hW s sz cells ⟨rfl, rfl, rfl⟩; exact ⟨hr.same0 hW, hc⟩
  have hA := SX.rd_some hr
  have hln : ls.length = n := by have := hr.1; rw [lmL_len] at this; omega
  unfold tree_lStand
  refine SX.VC_df (.int .i64 ((chkL ls))) (fun α => ⟨[⟨.slice A n c, 9, lmL ls⟩], ⟨by kernel_rfl, rfl, ⟨by kernel_rfl, rfl, rfl⟩, trivial⟩, .inl ⟨rfl, _, ls, rfl, by omega, hfit, rfl⟩, SX.noAli rfl⟩) (by kernel_rfl) ?_
  refine SX.VC_df (.bool (((chkL ls) : Int) != 0)) (by intro α; show _ = _; kernel_rfl) (by kernel_rfl) ?_
  refine SX.VC_br (((chkL ls) : Int) != 0) (by kernel_rfl) (fun h5 => ?_) (fun h5 => ?_)
  · try simp only [NRM] at h5
    have hfact : standR ls p d t = ([], chkL ls) := by rw [standR, if_pos (by simpa using h5)]
    exact SX.VC_ret fun α W _ hR hS => ⟨hS.below, (.slice none 0 0), Eq.trans (b := Ending.returned (.tuple #[(.slice none 0 0), .int .i64 ((chkL ls))])) (by kernel_rfl) (by rw [hfact]), (by rw [hfact]; exact SX.SlRet.nil)⟩
  · try simp only [NRM] at h5
    refine SX.VC_df (.bool (decide (0 ≤ p))) (by intro α; show _ = _; kernel_rfl) (by kernel_rfl) ?_
    refine SX.VC_br (decide (0 ≤ p)) (by kernel_rfl) (fun h6 => ?_) (fun h6 => ?_)
    · try simp only [NRM] at h6
      refine SX.VC_df (.bool (decide (p ≤ 63))) (by intro α; show _ = _; kernel_rfl) (by kernel_rfl) ?_
      refine SX.VC_df (.bool (!(decide (p ≤ 63)))) (by intro α; show _ = _; kernel_rfl) (by kernel_rfl) ?_
      refine SX.VC_br (!(decide (p ≤ 63))) (by kernel_rfl) (fun h8 => ?_) (fun h8 => ?_)
      · try simp only [NRM] at h8
        have hfact : standR ls p d t = ([], 1) := by rw [standR, if_neg (by simpa using h5), if_pos (fun hk => by rw [inR_iff] at hk; omega)]
        exact SX.VC_ret fun α W _ hR hS => ⟨hS.below, (.slice none 0 0), Eq.trans (b := Ending.returned (.tuple #[(.slice none 0 0), .int .i64 1])) (by kernel_rfl) (by rw [hfact]), (by rw [hfact]; exact SX.SlRet.nil)⟩
      · try simp only [NRM] at h8
        refine SX.VC_df (.bool (decide (0 ≤ d))) (by intro α; show _ = _; kernel_rfl) (by kernel_rfl) ?_
        refine SX.VC_br (decide (0 ≤ d)) (by kernel_rfl) (fun h9 => ?_) (fun h9 => ?_)
        · try simp only [NRM] at h9
          refine SX.VC_df (.bool (decide (d ≤ 73048))) (by intro α; show _ = _; kernel_rfl) (by kernel_rfl) ?_
          refine SX.VC_df (.bool (!(decide (d ≤ 73048)))) (by intro α; show _ = _; kernel_rfl) (by kernel_rfl) ?_
          refine SX.VC_br (!(decide (d ≤ 73048))) (by kernel_rfl) (fun h11 => ?_) (fun h11 => ?_)
          · try simp only [NRM] at h11
            have hfact : standR ls p d t = ([], 1) := by rw [standR, if_neg (by simpa using h5), if_pos (fun hk => by rw [inR_iff] at hk; omega)]
            exact SX.VC_ret fun α W _ hR hS => ⟨hS.below, (.slice none 0 0), Eq.trans (b := Ending.returned (.tuple #[(.slice none 0 0), .int .i64 1])) (by kernel_rfl) (by rw [hfact]), (by rw [hfact]; exact SX.SlRet.nil)⟩
          · try simp only [NRM] at h11
            refine SX.VC_df (.bool (decide (0 ≤ t))) (by intro α; show _ = _; kernel_rfl) (by kernel_rfl) ?_
            refine SX.VC_br (decide (0 ≤ t)) (by kernel_rfl) (fun h12 => ?_) (fun h12 => ?_)
            · try simp only [NRM] at h12
              refine SX.VC_df (.bool (decide (t ≤ 134217727))) (by intro α; show _ = _; kernel_rfl) (by kernel_rfl) ?_
              refine SX.VC_df (.bool (!(decide (t ≤ 134217727)))) (by intro α; show _ = _; kernel_rfl) (by kernel_rfl) ?_
              refine SX.VC_br (!(decide (t ≤ 134217727))) (by kernel_rfl) (fun h14 => ?_) (fun h14 => ?_)
              · try simp only [NRM] at h14
                have hfact : standR ls p d t = ([], 1) := by rw [standR, if_neg (by simpa using h5), if_pos (fun hk => by rw [inR_iff] at hk; omega)]
                exact SX.VC_ret fun α W _ hR hS => ⟨hS.below, (.slice none 0 0), Eq.trans (b := Ending.returned (.tuple #[(.slice none 0 0), .int .i64 1])) (by kernel_rfl) (by rw [hfact]), (by rw [hfact]; exact SX.SlRet.nil)⟩
              · try simp only [NRM] at h14
                refine SX.VC_df (.int .i64 (((n : Nat) : Int))) (by intro α; show _ = _; kernel_rfl) (by kernel_rfl) ?_
                have hk0 : chkL ls = 0 := by simpa using h5
                obtain ⟨hl5, hokl⟩ := chkL_zero hk0
                have hir : inR p d t := by rw [inR_iff]; (try simp at h8); (try simp at h11); (try simp at h14); omega
                refine SX.VC_loop (fun xs => ∃ (j : Nat) (g : List (Int × List Value)), xs = [.int .i64 (j : Int), .agg (g.flatMap (mCells .i64)).toArray] ∧ j ≤ n ∧ GoneI ls t j g) (fun xs => match xs with | (.int _ i) :: _ => n - i.toNat | _ => 0) (fun α => ⟨0, [], by kernel_rfl, by omega, goneI_zero ls t⟩) ?_
                rintro xs - ⟨j, g, rfl, hjn, hG⟩
                refine SX.VC_df (.bool (decide (((j : Nat) : Int) < ((n : Nat) : Int)))) (by intro α; show _ = _; kernel_rfl) (by kernel_rfl) ?_
                refine SX.VC_br (decide (((j : Nat) : Int) < ((n : Nat) : Int))) (by kernel_rfl) (fun h18 => ?_) (fun h18 => ?_)
                · try simp only [NRM] at h18
                  obtain ⟨y, hy⟩ : ∃ z, ls[j]? = some z := ⟨_, List.getElem?_eq_getElem (by omega)⟩
                  have hyf := hfit y (List.mem_of_getElem? hy)
                  refine SX.VC_df (.bool true) (fun α => SX.extBnd (A := A) (n := n) (c := c) (j := j) hA (by kernel_rfl) (by kernel_rfl) (by omega)) (by kernel_rfl) ?_
                  refine SX.VC_df (.agg (cellsLm y).toArray) (fun α => SX.extElems (f := cellsLm) (l := ls) (A := A) (n := n) (c := c) (j := j) (z := y) (fun _ => rfl) hA (by kernel_rfl) (by kernel_rfl) (by omega) ⟨rfl, rfl, rfl⟩ hy) (by kernel_rfl) ?_
                  refine SX.VC_df (.bool (decide (y.of_ > 0))) (by intro α; show _ = _; kernel_rfl) (by kernel_rfl) ?_
                  refine SX.VC_br (decide (y.of_ > 0)) (by kernel_rfl) (fun h21 => ?_) (fun h21 => ?_)
                  · try simp only [NRM] at h21
                    refine SX.VC_df (.bool (decide (y.known ≤ t))) (by intro α; show _ = _; kernel_rfl) (by kernel_rfl) ?_
                    refine SX.VC_br (decide (y.known ≤ t)) (by kernel_rfl) (fun h22 => ?_) (fun h22 => ?_)
                    · try simp only [NRM] at h22
                      refine SX.VC_df (.int .i64 (y.of_ - 1)) (fun α => Eq.trans (b := some (.int .i64 (IntKind.i64.wrap (y.of_ - 1)))) (by kernel_rfl) (by rw [wrap_i64 (by omega) (by omega)])) (by kernel_rfl) ?_
                      refine SX.VC_df (Value.agg ((putM g (y.of_ - 1) [.bool true]).flatMap (mCells .i64)).toArray) (fun α => ⟨g, y.of_ - 1, SX.cat1 (by kernel_rfl), hG.1, by kernel_rfl, by kernel_rfl⟩) (by kernel_rfl) ?_
                      refine SX.VC_df (.int .i64 (((j + 1 : Nat) : Int))) (fun α => Eq.trans (b := some (.int .i64 (IntKind.i64.wrap ((j : Int) + 1)))) (by kernel_rfl) (by rw [show ((j + 1 : Nat) : Int) = (j : Int) + 1 by omega, wrap_i64 (by omega) (by omega)])) (by kernel_rfl) ?_
                      exact SX.VC_again fun α => ⟨⟨j + 1, putM g (y.of_ - 1) [.bool true], by kernel_rfl, by omega, goneI_yes hG hy (by omega) (by omega)⟩, cast (by kernel_rfl) (show n - ((j + 1 : Nat) : Int).toNat < n - (j : Int).toNat by omega)⟩
                    · try simp only [NRM] at h22
                      refine SX.VC_df (.int .i64 (((j + 1 : Nat) : Int))) (fun α => Eq.trans (b := some (.int .i64 (IntKind.i64.wrap ((j : Int) + 1)))) (by kernel_rfl) (by rw [show ((j + 1 : Nat) : Int) = (j : Int) + 1 by omega, wrap_i64 (by omega) (by omega)])) (by kernel_rfl) ?_
                      exact SX.VC_again fun α => ⟨⟨j + 1, g, by kernel_rfl, by omega, goneI_no hG hy (by omega)⟩, cast (by kernel_rfl) (show n - ((j + 1 : Nat) : Int).toNat < n - (j : Int).toNat by omega)⟩
                  · try simp only [NRM] at h21
                    refine SX.VC_df (.int .i64 (((j + 1 : Nat) : Int))) (fun α => Eq.trans (b := some (.int .i64 (IntKind.i64.wrap ((j : Int) + 1)))) (by kernel_rfl) (by rw [show ((j + 1 : Nat) : Int) = (j : Int) + 1 by omega, wrap_i64 (by omega) (by omega)])) (by kernel_rfl) ?_
                    exact SX.VC_again fun α => ⟨⟨j + 1, g, by kernel_rfl, by omega, goneI_no hG hy (by omega)⟩, cast (by kernel_rfl) (show n - ((j + 1 : Nat) : Int).toNat < n - (j : Int).toNat by omega)⟩
                · try simp only [NRM] at h18
                  refine SX.VC_df (.int .i64 (((n : Nat) : Int))) (by intro α; show _ = _; kernel_rfl) (by kernel_rfl) ?_
                  refine SX.VC_loop (fun xs => ∃ (i : Nat), xs = [.int .i64 (i : Int), .agg (lmL (standTo ls p d t i)).toArray] ∧ i ≤ n) (fun xs => match xs with | (.int _ i) :: _ => n - i.toNat | _ => 0) (fun α => ⟨0, Eq.trans (b := [.int .i64 0, .agg #[]]) (by kernel_rfl) (by simp [standTo, lmL]), by omega⟩) ?_
                  rintro xs - ⟨i, rfl, hin⟩
                  have hsl : (standTo ls p d t i).length ≤ i := standTo_le
                  refine SX.VC_df (.bool (decide (((i : Nat) : Int) < ((n : Nat) : Int)))) (by intro α; show _ = _; kernel_rfl) (by kernel_rfl) ?_
                  refine SX.VC_br (decide (((i : Nat) : Int) < ((n : Nat) : Int))) (by kernel_rfl) (fun h22 => ?_) (fun h22 => ?_)
                  · try simp only [NRM] at h22
                    obtain ⟨z, hz⟩ : ∃ z, ls[i]? = some z := ⟨_, List.getElem?_eq_getElem (by omega)⟩
                    have hz0 := (elemOk_iff.1 (hokl i z hz).1).1
                    obtain ⟨rp, hlg, hrp⟩ := look_gone hG (by omega) hz0.1
                    refine SX.VC_df (.bool true) (fun α => SX.extBnd (A := A) (n := n) (c := c) (j := i) hA (by kernel_rfl) (by kernel_rfl) (by omega)) (by kernel_rfl) ?_
                    refine SX.VC_df (.agg (cellsLm z).toArray) (fun α => SX.extElems (f := cellsLm) (l := ls) (A := A) (n := n) (c := c) (j := i) (z := z) (fun _ => rfl) hA (by kernel_rfl) (by kernel_rfl) (by omega) ⟨rfl, rfl, rfl⟩ hz) (by kernel_rfl) ?_
                    refine SX.VC_df (.bool ((z.person : Int) == p)) (by intro α; show _ = _; kernel_rfl) (by kernel_rfl) ?_
                    refine SX.VC_br ((z.person : Int) == p) (by kernel_rfl) (fun h25 => ?_) (fun h25 => ?_)
                    · try simp only [NRM] at h25
                      refine SX.VC_df (.bool (decide (z.known ≤ t))) (by intro α; show _ = _; kernel_rfl) (by kernel_rfl) ?_
                      refine SX.VC_br (decide (z.known ≤ t)) (by kernel_rfl) (fun h26 => ?_) (fun h26 => ?_)
                      · try simp only [NRM] at h26
                        refine SX.VC_df (.bool (decide (z.from_ ≤ d))) (by intro α; show _ = _; kernel_rfl) (by kernel_rfl) ?_
                        refine SX.VC_br (decide (z.from_ ≤ d)) (by kernel_rfl) (fun h27 => ?_) (fun h27 => ?_)
                        · try simp only [NRM] at h27
                          refine SX.VC_df (.bool (decide (d ≤ z.to_))) (by intro α; show _ = _; kernel_rfl) (by kernel_rfl) ?_
                          refine SX.VC_br (decide (d ≤ z.to_)) (by kernel_rfl) (fun h28 => ?_) (fun h28 => ?_)
                          · try simp only [NRM] at h28
                            refine SX.VC_df (.bool (true ^^ decide ((z.kind, z.limb, z.n) = ((0 : Int), (0 : Int), (0 : Int))))) (fun α => SX.eqr_rel (f := cellsCap) cellsCap_inj (y := (z.kind, z.limb, z.n)) (z := ((0 : Int), (0 : Int), (0 : Int))) (by kernel_rfl) (by kernel_rfl) (by kernel_rfl)) (by kernel_rfl) ?_
                            refine SX.VC_br (true ^^ decide ((z.kind, z.limb, z.n) = ((0 : Int), (0 : Int), (0 : Int)))) (by kernel_rfl) (fun h29 => ?_) (fun h29 => ?_)
                            · try simp only [NRM] at h29
                              refine SX.VC_df (.bool rp) (fun α => ⟨g, z.no, SX.cat1 (by kernel_rfl), hG.1, by kernel_rfl, hlg⟩) (by kernel_rfl) ?_
                              refine SX.VC_df (.bool (!(rp))) (by intro α; show _ = _; kernel_rfl) (by kernel_rfl) ?_
                              refine SX.VC_br (!(rp)) (by kernel_rfl) (fun h31 => ?_) (fun h31 => ?_)
                              · try simp only [NRM] at h31
                                refine SX.VC_df (Value.agg (([z]).flatMap cellsLm).toArray) (fun α => SX.app_rel (f := cellsLm) (l1 := (standTo ls p d t i)) (l2 := [z]) (fun _ => rfl) cellsLm_one (by decide) (SX.cat1 (by kernel_rfl)) (SX.src_own (by kernel_rfl)) (by simp only [List.length_append, List.length_take, List.length_drop, List.length_cons, List.length_nil]; omega) (by simp only [List.length_append, List.length_take, List.length_drop, List.length_cons, List.length_nil]; omega)) (by kernel_rfl) ?_
                                refine SX.VC_df (.int .i64 (((i + 1 : Nat) : Int))) (fun α => Eq.trans (b := some (.int .i64 (IntKind.i64.wrap ((i : Int) + 1)))) (by kernel_rfl) (by rw [show ((i + 1 : Nat) : Int) = (i : Int) + 1 by omega, wrap_i64 (by omega) (by omega)])) (by kernel_rfl) ?_
                                have hst : standE ls p d t z := ⟨by simpa using h25, by omega, by omega, by omega, by simpa using h29, by rw [← hrp]; simpa using h31⟩
                                exact SX.VC_again fun α => ⟨⟨i + 1, Eq.trans (b := [.int .i64 ((i + 1 : Nat) : Int), .agg ([Value.agg (lmL (standTo ls p d t i)).toArray, Value.agg (([z]).flatMap cellsLm).toArray].flatMap SX.cellsV).toArray]) (by kernel_rfl) (by rw [standTo_yes hz hst]; simp [SX.cellsV, lmL]), by omega⟩, cast (by kernel_rfl) (show n - ((i + 1 : Nat) : Int).toNat < n - (i : Int).toNat by omega)⟩
                              · try simp only [NRM] at h31
                                refine SX.VC_df (.int .i64 (((i + 1 : Nat) : Int))) (fun α => Eq.trans (b := some (.int .i64 (IntKind.i64.wrap ((i : Int) + 1)))) (by kernel_rfl) (by rw [show ((i + 1 : Nat) : Int) = (i : Int) + 1 by omega, wrap_i64 (by omega) (by omega)])) (by kernel_rfl) ?_
                                have hst : ¬ standE ls p d t z := fun hk => hk.2.2.2.2.2 (hrp.1 (by simpa using h31))
                                exact SX.VC_again fun α => ⟨⟨i + 1, Eq.trans (b := [.int .i64 ((i + 1 : Nat) : Int), .agg ([Value.agg (lmL (standTo ls p d t i)).toArray].flatMap SX.cellsV).toArray]) (by kernel_rfl) (by rw [standTo_no hz hst]; simp [SX.cellsV]), by omega⟩, cast (by kernel_rfl) (show n - ((i + 1 : Nat) : Int).toNat < n - (i : Int).toNat by omega)⟩
                            · try simp only [NRM] at h29
                              refine SX.VC_df (.int .i64 (((i + 1 : Nat) : Int))) (fun α => Eq.trans (b := some (.int .i64 (IntKind.i64.wrap ((i : Int) + 1)))) (by kernel_rfl) (by rw [show ((i + 1 : Nat) : Int) = (i : Int) + 1 by omega, wrap_i64 (by omega) (by omega)])) (by kernel_rfl) ?_
                              have hst : ¬ standE ls p d t z := fun hk => hk.2.2.2.2.1 (by simpa using h29)
                              exact SX.VC_again fun α => ⟨⟨i + 1, Eq.trans (b := [.int .i64 ((i + 1 : Nat) : Int), .agg ([Value.agg (lmL (standTo ls p d t i)).toArray].flatMap SX.cellsV).toArray]) (by kernel_rfl) (by rw [standTo_no hz hst]; simp [SX.cellsV]), by omega⟩, cast (by kernel_rfl) (show n - ((i + 1 : Nat) : Int).toNat < n - (i : Int).toNat by omega)⟩
                          · try simp only [NRM] at h28
                            refine SX.VC_df (.int .i64 (((i + 1 : Nat) : Int))) (fun α => Eq.trans (b := some (.int .i64 (IntKind.i64.wrap ((i : Int) + 1)))) (by kernel_rfl) (by rw [show ((i + 1 : Nat) : Int) = (i : Int) + 1 by omega, wrap_i64 (by omega) (by omega)])) (by kernel_rfl) ?_
                            have hst : ¬ standE ls p d t z := fun hk => by have := hk.2.2.2.1; omega
                            exact SX.VC_again fun α => ⟨⟨i + 1, Eq.trans (b := [.int .i64 ((i + 1 : Nat) : Int), .agg ([Value.agg (lmL (standTo ls p d t i)).toArray].flatMap SX.cellsV).toArray]) (by kernel_rfl) (by rw [standTo_no hz hst]; simp [SX.cellsV]), by omega⟩, cast (by kernel_rfl) (show n - ((i + 1 : Nat) : Int).toNat < n - (i : Int).toNat by omega)⟩
                        · try simp only [NRM] at h27
                          refine SX.VC_df (.int .i64 (((i + 1 : Nat) : Int))) (fun α => Eq.trans (b := some (.int .i64 (IntKind.i64.wrap ((i : Int) + 1)))) (by kernel_rfl) (by rw [show ((i + 1 : Nat) : Int) = (i : Int) + 1 by omega, wrap_i64 (by omega) (by omega)])) (by kernel_rfl) ?_
                          have hst : ¬ standE ls p d t z := fun hk => by have := hk.2.2.1; omega
                          exact SX.VC_again fun α => ⟨⟨i + 1, Eq.trans (b := [.int .i64 ((i + 1 : Nat) : Int), .agg ([Value.agg (lmL (standTo ls p d t i)).toArray].flatMap SX.cellsV).toArray]) (by kernel_rfl) (by rw [standTo_no hz hst]; simp [SX.cellsV]), by omega⟩, cast (by kernel_rfl) (show n - ((i + 1 : Nat) : Int).toNat < n - (i : Int).toNat by omega)⟩
                      · try simp only [NRM] at h26
                        refine SX.VC_df (.int .i64 (((i + 1 : Nat) : Int))) (fun α => Eq.trans (b := some (.int .i64 (IntKind.i64.wrap ((i : Int) + 1)))) (by kernel_rfl) (by rw [show ((i + 1 : Nat) : Int) = (i : Int) + 1 by omega, wrap_i64 (by omega) (by omega)])) (by kernel_rfl) ?_
                        have hst : ¬ standE ls p d t z := fun hk => by have := hk.2.1; omega
                        exact SX.VC_again fun α => ⟨⟨i + 1, Eq.trans (b := [.int .i64 ((i + 1 : Nat) : Int), .agg ([Value.agg (lmL (standTo ls p d t i)).toArray].flatMap SX.cellsV).toArray]) (by kernel_rfl) (by rw [standTo_no hz hst]; simp [SX.cellsV]), by omega⟩, cast (by kernel_rfl) (show n - ((i + 1 : Nat) : Int).toNat < n - (i : Int).toNat by omega)⟩
                    · try simp only [NRM] at h25
                      refine SX.VC_df (.int .i64 (((i + 1 : Nat) : Int))) (fun α => Eq.trans (b := some (.int .i64 (IntKind.i64.wrap ((i : Int) + 1)))) (by kernel_rfl) (by rw [show ((i + 1 : Nat) : Int) = (i : Int) + 1 by omega, wrap_i64 (by omega) (by omega)])) (by kernel_rfl) ?_
                      have hst : ¬ standE ls p d t z := fun hk => absurd hk.1 (by simpa using h25)
                      exact SX.VC_again fun α => ⟨⟨i + 1, Eq.trans (b := [.int .i64 ((i + 1 : Nat) : Int), .agg ([Value.agg (lmL (standTo ls p d t i)).toArray].flatMap SX.cellsV).toArray]) (by kernel_rfl) (by rw [standTo_no hz hst]; simp [SX.cellsV]), by omega⟩, cast (by kernel_rfl) (show n - ((i + 1 : Nat) : Int).toNat < n - (i : Int).toNat by omega)⟩
                  · try simp only [NRM] at h22
                    have hfact : standR ls p d t = (standTo ls p d t i, 0) := by rw [standR, if_neg (by omega), if_neg (not_not_intro hir), standTo_all (by omega)]
                    exact SX.VC_ret fun α W _ hR hS => ⟨hS.below, (α 12).h, Eq.trans (b := Ending.returned (.tuple #[(α 12).h, .int .i64 0])) (by kernel_rfl) (by rw [hfact]), SX.SlRet.row hS (n := 12) (b := (⟨[(.x 21 [])], 26, (.row 9)⟩ : SX.Blk)) (by kernel_rfl) rfl (hR 12 _ (by kernel_rfl)) (Eq.trans (b := [Value.agg (lmL (standTo ls p d t i)).toArray].flatMap SX.cellsV) (by kernel_rfl) (by rw [hfact]; simp [SX.cellsV]))⟩
            · try simp only [NRM] at h12
              have hfact : standR ls p d t = ([], 1) := by rw [standR, if_neg (by simpa using h5), if_pos (fun hk => by rw [inR_iff] at hk; omega)]
              exact SX.VC_ret fun α W _ hR hS => ⟨hS.below, (.slice none 0 0), Eq.trans (b := Ending.returned (.tuple #[(.slice none 0 0), .int .i64 1])) (by kernel_rfl) (by rw [hfact]), (by rw [hfact]; exact SX.SlRet.nil)⟩
        · try simp only [NRM] at h9
          have hfact : standR ls p d t = ([], 1) := by rw [standR, if_neg (by simpa using h5), if_pos (fun hk => by rw [inR_iff] at hk; omega)]
          exact SX.VC_ret fun α W _ hR hS => ⟨hS.below, (.slice none 0 0), Eq.trans (b := Ending.returned (.tuple #[(.slice none 0 0), .int .i64 1])) (by kernel_rfl) (by rw [hfact]), (by rw [hfact]; exact SX.SlRet.nil)⟩
    · try simp only [NRM] at h6
      have hfact : standR ls p d t = ([], 1) := by rw [standR, if_neg (by simpa using h5), if_pos (fun hk => by rw [inR_iff] at hk; omega)]
      exact SX.VC_ret fun α W _ hR hS => ⟨hS.below, (.slice none 0 0), Eq.trans (b := Ending.returned (.tuple #[(.slice none 0 0), .int .i64 1])) (by kernel_rfl) (by rw [hfact]), (by rw [hfact]; exact SX.SlRet.nil)⟩
end Go.Proofs.Ytmkigejhgpoleaa
