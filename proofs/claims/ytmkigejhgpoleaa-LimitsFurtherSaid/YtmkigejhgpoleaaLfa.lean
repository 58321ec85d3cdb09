/-
  Plain facts: what is in force is the greatest body that keeps what stands; a further limit.
-/
import Derived.Test.YtmkigejhgpoleaaBody2
import Derived.Test.YtmkigejhgpoleaaLk
import Derived.Test.YtmkigejhgpoleaaLfe
import Derived.Test.YtmkigejhgpoleaaLq
namespace Go.Proofs.Ytmkigejhgpoleaa
set_option linter.unusedSimpArgs false
set_option linter.unusedVariables false
def bodyLe (a b : Bod.Bd) : Prop := a.name = b.name ∧ a.weight = b.weight ∧ a.girth = b.girth ∧ a.r0 = b.r0 ∧ a.r1 = b.r1 ∧ a.r2 = b.r2 ∧ a.recover = b.recover ∧
  a.lift ≤ b.lift ∧ a.step ≤ b.step ∧ a.jump ≤ b.jump ∧ a.s0 ≤ b.s0 ∧ a.s1 ≤ b.s1 ∧ a.s2 ≤ b.s2 ∧ a.t0 ≤ b.t0 ∧ a.t1 ≤ b.t1 ∧ a.t2 ≤ b.t2 ∧ a.effort ≤ b.effort
theorem bodyLe_refl (a : Bod.Bd) : bodyLe a a := by simp [bodyLe]
theorem bodyLe_trans {a b c : Bod.Bd} (h : bodyLe a b) (k : bodyLe b c) : bodyLe a c := by
  obtain ⟨h1, h2, h3, h4, h5, h6, h7, g1, g2, g3, g4, g5, g6, g7, g8, g9, g10⟩ := h
  obtain ⟨k1, k2, k3, k4, k5, k6, k7, l1, l2, l3, l4, l5, l6, l7, l8, l9, l10⟩ := k
  refine ⟨h1.trans k1, h2.trans k2, h3.trans k3, h4.trans k4, h5.trans k5, h6.trans k6, h7.trans k7, ?_, ?_, ?_, ?_, ?_, ?_, ?_, ?_, ?_, ?_⟩ <;> omega
theorem bodyLe_anti {a b : Bod.Bd} (h : bodyLe a b) (k : bodyLe b a) : a = b := by
  obtain ⟨h1, h2, h3, h4, h5, h6, h7, g1, g2, g3, g4, g5, g6, g7, g8, g9, g10⟩ := h
  obtain ⟨k1, k2, k3, k4, k5, k6, k7, l1, l2, l3, l4, l5, l6, l7, l8, l9, l10⟩ := k
  have e1 := Int.le_antisymm g1 l1
  have e2 := Int.le_antisymm g2 l2
  have e3 := Int.le_antisymm g3 l3
  have e4 := Int.le_antisymm g4 l4
  have e5 := Int.le_antisymm g5 l5
  have e6 := Int.le_antisymm g6 l6
  have e7 := Int.le_antisymm g7 l7
  have e8 := Int.le_antisymm g8 l8
  have e9 := Int.le_antisymm g9 l9
  have e10 := Int.le_antisymm g10 l10
  cases a; cases b
  simp_all
theorem cap_facts {c : Bod.Cp} (h : c.ok = true) : 1 ≤ c.kind ∧ c.kind ≤ 6 ∧ c.r < 6 ∧ 0 ≤ c.limb ∧ c.limb ≤ Bod.rlimb c.r := by
  unfold Bod.Cp.ok Bod.Cp.inR Bod.inB at h
  simp only [Bool.and_eq_true, decide_eq_true_eq] at h
  unfold Bod.Cp.r at *
  omega
def fieldV (b : Bod.Bd) (c : Bod.Cp) : Int := if c.ok = true then b.fld c.r c.limb.toNat else 0
def keepV (b : Bod.Bd) (c : Bod.Cp) : Bool := c.ok && decide (b.fld c.r c.limb.toNat ≤ c.n)
def keepsV (b : Bod.Bd) (l : List Bod.Cp) : Bool := l.all (keepV b)
/-- what caps do not concern -/
def sameRest (a b : Bod.Bd) : Prop := a.name = b.name ∧ a.weight = b.weight ∧ a.girth = b.girth ∧ a.r0 = b.r0 ∧ a.r1 = b.r1 ∧ a.r2 = b.r2 ∧ a.recover = b.recover
theorem bodyLe_iff (a b : Bod.Bd) : bodyLe a b ↔ sameRest a b ∧ ∀ j l, j < 6 → l ≤ Bod.rlimb j → a.fld j l ≤ b.fld j l := by
  constructor
  · rintro ⟨h1, h2, h3, h4, h5, h6, h7, g1, g2, g3, g4, g5, g6, g7, g8, g9, g10⟩
    refine ⟨⟨h1, h2, h3, h4, h5, h6, h7⟩, fun j l hj hl => ?_⟩
    have hc : j = 0 ∨ j = 1 ∨ j = 2 ∨ j = 3 ∨ j = 4 ∨ j = 5 := by omega
    rcases hc with rfl | rfl | rfl | rfl | rfl | rfl
    · have : l = 0 ∨ l = 1 ∨ l = 2 := by have : l ≤ 2 := hl; omega
      rcases this with rfl | rfl | rfl <;> assumption
    · have : l = 0 ∨ l = 1 ∨ l = 2 := by have : l ≤ 2 := hl; omega
      rcases this with rfl | rfl | rfl <;> assumption
    · assumption
    · assumption
    · assumption
    · assumption
  · rintro ⟨⟨h1, h2, h3, h4, h5, h6, h7⟩, h⟩
    exact ⟨h1, h2, h3, h4, h5, h6, h7, h 4 0 (by decide) (by decide), h 2 0 (by decide) (by decide), h 3 0 (by decide) (by decide), h 1 0 (by decide) (by decide), h 1 1 (by decide) (by decide), h 1 2 (by decide) (by decide), h 0 0 (by decide) (by decide), h 0 1 (by decide) (by decide), h 0 2 (by decide) (by decide), h 5 0 (by decide) (by decide)⟩
theorem set_rest (b : Bod.Bd) {j l : Nat} (hj : j < 6) (hl : l ≤ Bod.rlimb j) (v : Int) : sameRest (b.set j l v) b ∧ (b.set j l v).fld j l = v ∧ ∀ j' l', j' < 6 → l' ≤ Bod.rlimb j' → (j' ≠ j ∨ l' ≠ l) → (b.set j l v).fld j' l' = b.fld j' l' := by
  have key : ∀ (j l : Nat), j < 6 → l ≤ Bod.rlimb j → (j = 0 ∧ (l = 0 ∨ l = 1 ∨ l = 2)) ∨ (j = 1 ∧ (l = 0 ∨ l = 1 ∨ l = 2)) ∨ (j = 2 ∧ l = 0) ∨ (j = 3 ∧ l = 0) ∨ (j = 4 ∧ l = 0) ∨ (j = 5 ∧ l = 0) := fun j l hj hl => by
    have hc : j = 0 ∨ j = 1 ∨ j = 2 ∨ j = 3 ∨ j = 4 ∨ j = 5 := by omega
    rcases hc with rfl | rfl | rfl | rfl | rfl | rfl
    · have h : l ≤ 2 := hl; omega
    · have h : l ≤ 2 := hl; omega
    · have h : l ≤ 0 := hl; omega
    · have h : l ≤ 0 := hl; omega
    · have h : l ≤ 0 := hl; omega
    · have h : l ≤ 0 := hl; omega
  refine ⟨?_, ?_, fun j' l' hj' hl' hne => ?_⟩
  · rcases key j l hj hl with ⟨rfl, rfl | rfl | rfl⟩ | ⟨rfl, rfl | rfl | rfl⟩ | ⟨rfl, rfl⟩ | ⟨rfl, rfl⟩ | ⟨rfl, rfl⟩ | ⟨rfl, rfl⟩ <;> exact ⟨rfl, rfl, rfl, rfl, rfl, rfl, rfl⟩
  · rcases key j l hj hl with ⟨rfl, rfl | rfl | rfl⟩ | ⟨rfl, rfl | rfl | rfl⟩ | ⟨rfl, rfl⟩ | ⟨rfl, rfl⟩ | ⟨rfl, rfl⟩ | ⟨rfl, rfl⟩ <;> rfl
  · rcases key j l hj hl with ⟨rfl, rfl | rfl | rfl⟩ | ⟨rfl, rfl | rfl | rfl⟩ | ⟨rfl, rfl⟩ | ⟨rfl, rfl⟩ | ⟨rfl, rfl⟩ | ⟨rfl, rfl⟩ <;>
    rcases key j' l' hj' hl' with ⟨rfl, rfl | rfl | rfl⟩ | ⟨rfl, rfl | rfl | rfl⟩ | ⟨rfl, rfl⟩ | ⟨rfl, rfl⟩ | ⟨rfl, rfl⟩ | ⟨rfl, rfl⟩ <;> first | rfl | (exfalso; revert hne; decide)
theorem sameRest.trans {a b c : Bod.Bd} (h : sameRest a b) (k : sameRest b c) : sameRest a c := by
  obtain ⟨h1, h2, h3, h4, h5, h6, h7⟩ := h
  obtain ⟨k1, k2, k3, k4, k5, k6, k7⟩ := k
  exact ⟨h1.trans k1, h2.trans k2, h3.trans k3, h4.trans k4, h5.trans k5, h6.trans k6, h7.trans k7⟩
/-- in range: each field that caps concern -/
theorem okB_iff (b : Bod.Bd) : b.okB = true ↔ b.baseB = true ∧ ∀ j l, j < 6 → l ≤ Bod.rlimb j → Bod.rlo j ≤ b.fld j l ∧ b.fld j l ≤ Bod.rhi j := by
  unfold Bod.Bd.okB
  rw [Bool.and_eq_true, Bod.Bd.capsB_eq, List.all_eq_true]
  refine and_congr_right fun _ => ⟨fun h j l hj hl => ?_, fun h j hj => ?_⟩
  · have h1 := h j (List.mem_range.2 hj)
    unfold Bod.Bd.ruleB at h1
    have h2 := List.all_eq_true.1 h1 l (List.mem_range.2 (by omega))
    simpa [Bod.inB] using h2
  · unfold Bod.Bd.ruleB
    rw [List.all_eq_true]
    intro l hl
    have := h j l (List.mem_range.1 hj) (by have := List.mem_range.1 hl; omega)
    simpa [Bod.inB] using this
theorem base_same {a b : Bod.Bd} (h : sameRest a b) (hb : b.baseB = true) : a.baseB = true := by
  obtain ⟨h1, h2, h3, h4, h5, h6, h7⟩ := h
  unfold Bod.Bd.baseB at *
  rw [h1, h2, h3, h4, h5, h6, h7]
  exact hb
theorem cap_range {c : Bod.Cp} (h : c.ok = true) : Bod.rlo c.r ≤ c.n ∧ c.n ≤ Bod.rhi c.r := by
  unfold Bod.Cp.ok Bod.Cp.inR Bod.inB at h
  simp only [Bool.and_eq_true, decide_eq_true_eq] at h
  exact h.2.2
theorem limb_le {c : Bod.Cp} (h : c.ok = true) : c.limb.toNat ≤ Bod.rlimb c.r := by
  obtain ⟨_, _, _, h3, h4⟩ := cap_facts h
  omega
theorem meet_le (b : Bod.Bd) {c : Bod.Cp} (h : c.ok = true) : bodyLe (b.meet c) b := by
  obtain ⟨_, _, hr, _, _⟩ := cap_facts h
  obtain ⟨s1, s2, s3⟩ := set_rest b hr (limb_le h) (Bod.least (b.fld c.r c.limb.toNat) c.n)
  refine (bodyLe_iff _ _).2 ⟨s1, fun j l hj hl => ?_⟩
  by_cases he : j = c.r ∧ l = c.limb.toNat
  · obtain ⟨rfl, rfl⟩ := he
    have := (Bod.least_lo (b.fld c.r c.limb.toNat) c.n).1
    unfold Bod.Bd.meet
    omega
  · have := s3 j l hj hl (by omega)
    unfold Bod.Bd.meet
    omega
theorem meet_keep (b : Bod.Bd) {c : Bod.Cp} (h : c.ok = true) : keepV (b.meet c) c = true := by
  obtain ⟨_, _, hr, _, _⟩ := cap_facts h
  obtain ⟨s1, s2, s3⟩ := set_rest b hr (limb_le h) (Bod.least (b.fld c.r c.limb.toNat) c.n)
  unfold keepV Bod.Bd.meet
  rw [h, s2]
  simp [(Bod.least_lo (b.fld c.r c.limb.toNat) c.n).2.1]
theorem meet_ok {b : Bod.Bd} {c : Bod.Cp} (hb : b.okB = true) (h : c.ok = true) : (b.meet c).okB = true := by
  obtain ⟨_, _, hr, _, _⟩ := cap_facts h
  obtain ⟨s1, s2, s3⟩ := set_rest b hr (limb_le h) (Bod.least (b.fld c.r c.limb.toNat) c.n)
  obtain ⟨h1, h2⟩ := (okB_iff b).1 hb
  refine (okB_iff _).2 ⟨base_same s1 h1, fun j l hj hl => ?_⟩
  by_cases he : j = c.r ∧ l = c.limb.toNat
  · obtain ⟨rfl, rfl⟩ := he
    have := h2 c.r c.limb.toNat hr (limb_le h)
    have := cap_range h
    unfold Bod.Bd.meet
    rw [s2]
    rcases (Bod.least_lo (b.fld c.r c.limb.toNat) c.n).2.2 with e | e <;> rw [e] <;> omega
  · have := s3 j l hj hl (by omega)
    unfold Bod.Bd.meet
    rw [this]
    exact h2 j l hj hl
theorem meet_great {o b : Bod.Bd} {c : Bod.Cp} (h : c.ok = true) (ho : bodyLe o b) (hk : keepV o c = true) : bodyLe o (b.meet c) := by
  obtain ⟨_, _, hr, _, _⟩ := cap_facts h
  obtain ⟨s1, s2, s3⟩ := set_rest b hr (limb_le h) (Bod.least (b.fld c.r c.limb.toNat) c.n)
  obtain ⟨o1, o2⟩ := (bodyLe_iff _ _).1 ho
  unfold keepV at hk
  rw [h, Bool.true_and, decide_eq_true_iff] at hk
  have hback : sameRest b (b.meet c) := by
    obtain ⟨k1, k2, k3, k4, k5, k6, k7⟩ := s1
    exact ⟨k1.symm, k2.symm, k3.symm, k4.symm, k5.symm, k6.symm, k7.symm⟩
  refine (bodyLe_iff _ _).2 ⟨o1.trans hback, fun j l hj hl => ?_⟩
  by_cases he : j = c.r ∧ l = c.limb.toNat
  · obtain ⟨rfl, rfl⟩ := he
    have := o2 c.r c.limb.toNat hr (limb_le h)
    unfold Bod.Bd.meet
    rw [s2]
    rcases (Bod.least_lo (b.fld c.r c.limb.toNat) c.n).2.2 with e | e <;> rw [e] <;> omega
  · have := s3 j l hj hl (by omega)
    have := o2 j l hj hl
    unfold Bod.Bd.meet
    omega
theorem keep_le {a b : Bod.Bd} {c : Bod.Cp} (h : bodyLe a b) (hk : keepV b c = true) : keepV a c = true := by
  unfold keepV at *
  rw [Bool.and_eq_true, decide_eq_true_iff] at *
  obtain ⟨hok, hk⟩ := hk
  obtain ⟨_, _, hr, _, _⟩ := cap_facts hok
  have := ((bodyLe_iff _ _).1 h).2 c.r c.limb.toNat hr (limb_le hok)
  exact ⟨hok, by omega⟩
theorem meets_le : ∀ (l : List Bod.Cp) (b : Bod.Bd), l.all Bod.Cp.ok = true → bodyLe (b.meets l) b
  | [], b, _ => bodyLe_refl b
  | c :: l, b, h => by
    rw [List.all_cons, Bool.and_eq_true] at h
    exact bodyLe_trans (meets_le l (b.meet c) h.2) (meet_le b h.1)
theorem meets_ok : ∀ (l : List Bod.Cp) (b : Bod.Bd), b.okB = true → l.all Bod.Cp.ok = true → (b.meets l).okB = true
  | [], b, hb, _ => hb
  | c :: l, b, hb, h => by
    rw [List.all_cons, Bool.and_eq_true] at h
    exact meets_ok l (b.meet c) (meet_ok hb h.1) h.2
theorem meets_keeps : ∀ (l : List Bod.Cp) (b : Bod.Bd), l.all Bod.Cp.ok = true → keepsV (b.meets l) l = true
  | [], b, _ => rfl
  | c :: l, b, h => by
    rw [List.all_cons, Bool.and_eq_true] at h
    unfold keepsV
    rw [List.all_cons, Bool.and_eq_true]
    exact ⟨keep_le (meets_le l (b.meet c) h.2) (meet_keep b h.1), meets_keeps l (b.meet c) h.2⟩
theorem meets_great : ∀ (l : List Bod.Cp) (o b : Bod.Bd), l.all Bod.Cp.ok = true → bodyLe o b → keepsV o l = true → bodyLe o (b.meets l)
  | [], o, b, _, ho, _ => ho
  | c :: l, o, b, h, ho, hk => by
    rw [List.all_cons, Bool.and_eq_true] at h
    unfold keepsV at hk
    rw [List.all_cons, Bool.and_eq_true] at hk
    exact meets_great l o (b.meet c) h.2 (meet_great h.1 ho hk.1) hk.2
/-- All: an error and no body, or the lowered body -/
theorem all_cases (b : Bod.Bd) (l : List Bod.Cp) : (b.allE l ≠ 0 ∧ b.allB l = Bod.Bd.zero) ∨ (b.allE l = 0 ∧ b.allB l = b.meets l ∧ b.okB = true ∧ l.all Bod.Cp.ok = true ∧ l.length ≤ 64) := by
  by_cases h : b.allE l = 0
  · refine .inr ⟨h, by unfold Bod.Bd.allB; rw [if_pos h], ?_⟩
    unfold Bod.Bd.allE at h
    split at h
    · rename_i h1
      split at h
      · omega
      · rename_i h2
        split at h
        · rename_i h3
          exact ⟨h1, h3, by omega⟩
        · omega
    · omega
  · exact .inl ⟨h, Bod.Bd.all_no rfl h⟩
theorem keeps_sub {o : Bod.Bd} {l l' : List Bod.Cp} (h : keepsV o l' = true) (hs : ∀ c, c ∈ l → c ∈ l') : keepsV o l = true := by
  unfold keepsV at *
  exact List.all_eq_true.2 fun c hc => List.all_eq_true.1 h c (hs c hc)
theorem ok_sub {l l' : List Bod.Cp} (h : l'.all Bod.Cp.ok = true) (hs : ∀ c, c ∈ l → c ∈ l') : l.all Bod.Cp.ok = true :=
  List.all_eq_true.2 fun c hc => List.all_eq_true.1 h c (hs c hc)
theorem meets_sub {b : Bod.Bd} {l l' : List Bod.Cp} (h' : l'.all Bod.Cp.ok = true) (hs : ∀ c, c ∈ l → c ∈ l') : bodyLe (b.meets l') (b.meets l) :=
  meets_great l (b.meets l') b (ok_sub h' hs) (meets_le l' b h') (keeps_sub (meets_keeps l' b h') hs)
theorem meets_same {b : Bod.Bd} {l l' : List Bod.Cp} (h : l.all Bod.Cp.ok = true) (hs : ∀ c, c ∈ l ↔ c ∈ l') : b.meets l = b.meets l' :=
  bodyLe_anti (meets_sub h fun c hc => (hs c).2 hc) (meets_sub (ok_sub h fun c hc => (hs c).2 hc) fun c hc => (hs c).1 hc)
theorem meets_mono {a b : Bod.Bd} {l : List Bod.Cp} (h : l.all Bod.Cp.ok = true) (hab : bodyLe a b) : bodyLe (a.meets l) (b.meets l) :=
  meets_great l (a.meets l) b h (bodyLe_trans (meets_le l a h) hab) (meets_keeps l a h)
end Go.Proofs.Ytmkigejhgpoleaa
namespace Go.Proofs.Ytmkigejhgpoleaa
set_option linter.unusedSimpArgs false
set_option linter.unusedVariables false
open Go Go.RowKit
noncomputable instance (a b : Bod.Bd) : Decidable (bodyLe a b) := Classical.propDecidable _
noncomputable def weakR (a b : Bod.Bd) : Bool × Int := if a.chk ≠ 0 then (false, a.chk) else if b.chk ≠ 0 then (false, b.chk) else (decide (bodyLe a b), 0)
theorem mix_iff (a b : Bod.Bd) : (⟨a.name, a.weight, b.lift, a.girth, b.step, b.jump, a.r0, a.r1, a.r2, b.s0, b.s1, b.s2, b.t0, b.t1, b.t2, b.effort, a.recover⟩ : Bod.Bd) = b ↔ sameRest a b := by
  cases b
  simp [sameRest, Bod.Bd.mk.injEq]
/-- what is known of bodies -/
def RU0 (f : FuncId) (xs : List SX.Arg) (v : Value) : Prop :=
  (f = 21 ∧ ∃ b : Bod.Bd, xs = [⟨valBd b, 0, []⟩] ∧ b.name.size ≤ maxLen ∧ v = .int .i64 b.chk)
def shpU0 : FuncId → Option SX.Sh := fun f => if f = 21 then some .one else none
noncomputable def cxU0 (K A : Value → Nat → List Value → Prop) : SX.Cx := { P := Try.prog, R := fun _ => RU0, shp := shpU0, K := K, A := A, trm := true }
theorem okU0 (K A : Value → Nat → List Value → Prop) : (cxU0 K A).Ok := by
  refine SX.Cx.ok_of (fun _ => rfl) ?_
  intro K f xs v W hR hrd hKf
  rcases hR with ⟨rfl, b, rfl, hs, rfl⟩
  · exact (bCheck_any b W hs).mono fun e w' h => SX.plainOk rfl h
def tree_weaker : SX.Tree :=
(.df (.call 21 [.no]) [(.a [(.x 0 []), (.x 1 []), (.x 2 []), (.x 3 []), (.x 4 []), (.x 5 []), (.x 6 []), (.x 7 []), (.x 8 []), (.x 9 []), (.x 10 []), (.x 11 []), (.x 12 []), (.x 13 []), (.x 14 []), (.x 15 []), (.x 16 [])])] .one 
(.df (.bin .neq 29) [(.x 34 []), (.k (.int .i64 0))] .one 
(.br 35 [] 
(.ret (.t [(.k (.bool false)), (.x 34 [])]) [] []) 
(.df (.call 21 [.no]) [(.a [(.x 17 []), (.x 18 []), (.x 19 []), (.x 20 []), (.x 21 []), (.x 22 []), (.x 23 []), (.x 24 []), (.x 25 []), (.x 26 []), (.x 27 []), (.x 28 []), (.x 29 []), (.x 30 []), (.x 31 []), (.x 32 []), (.x 33 [])])] .one 
(.df (.bin .neq 29) [(.x 36 []), (.k (.int .i64 0))] .one 
(.br 37 [] 
(.ret (.t [(.k (.bool false)), (.x 36 [])]) [] []) 
(.df (.bin .gtr 3) [(.x 12 []), (.x 29 [])] .one 
(.br 38 [] 
(.ret (.t [(.k (.bool false)), (.k (.int .i64 0))]) [] []) 
(.df (.bin .gtr 3) [(.x 13 []), (.x 30 [])] .one 
(.br 39 [] 
(.ret (.t [(.k (.bool false)), (.k (.int .i64 0))]) [] []) 
(.df (.bin .gtr 3) [(.x 14 []), (.x 31 [])] .one 
(.br 40 [] 
(.ret (.t [(.k (.bool false)), (.k (.int .i64 0))]) [] []) 
(.df (.bin .gtr 3) [(.x 9 []), (.x 26 [])] .one 
(.br 41 [] 
(.ret (.t [(.k (.bool false)), (.k (.int .i64 0))]) [] []) 
(.df (.bin .gtr 3) [(.x 10 []), (.x 27 [])] .one 
(.br 42 [] 
(.ret (.t [(.k (.bool false)), (.k (.int .i64 0))]) [] []) 
(.df (.bin .gtr 3) [(.x 11 []), (.x 28 [])] .one 
(.br 43 [] 
(.ret (.t [(.k (.bool false)), (.k (.int .i64 0))]) [] []) 
(.df (.bin .gtr 3) [(.x 4 []), (.x 21 [])] .one 
(.br 44 [] 
(.ret (.t [(.k (.bool false)), (.k (.int .i64 0))]) [] []) 
(.df (.bin .gtr 3) [(.x 5 []), (.x 22 [])] .one 
(.br 45 [] 
(.ret (.t [(.k (.bool false)), (.k (.int .i64 0))]) [] []) 
(.df (.bin .gtr 3) [(.x 2 []), (.x 19 [])] .one 
(.br 46 [] 
(.ret (.t [(.k (.bool false)), (.k (.int .i64 0))]) [] []) 
(.df (.bin .gtr 3) [(.x 15 []), (.x 32 [])] .one 
(.br 47 [] 
(.ret (.t [(.k (.bool false)), (.k (.int .i64 0))]) [] []) 
(.df (.eqr false 17 [.s, (.i .i64), (.i .i64), (.i .i64), (.i .i64), (.i .i64), (.i .i64), (.i .i64), (.i .i64), (.i .i64), (.i .i64), (.i .i64), (.i .i64), (.i .i64), (.i .i64), (.i .i64), (.i .i64)]) [(.x 0 []), (.x 1 []), (.x 19 []), (.x 3 []), (.x 21 []), (.x 22 []), (.x 6 []), (.x 7 []), (.x 8 []), (.x 26 []), (.x 27 []), (.x 28 []), (.x 29 []), (.x 30 []), (.x 31 []), (.x 32 []), (.x 16 []), (.x 17 []), (.x 18 []), (.x 19 []), (.x 20 []), (.x 21 []), (.x 22 []), (.x 23 []), (.x 24 []), (.x 25 []), (.x 26 []), (.x 27 []), (.x 28 []), (.x 29 []), (.x 30 []), (.x 31 []), (.x 32 []), (.x 33 [])] .one 
(.ret (.t [(.x 48 []), (.k (.int .i64 0))]) [] []))))))))))))))))))))))))))))
def args_weaker : List SX.V := [.a ((List.range 17).map fun j => .x (0 + j) []), .a ((List.range 17).map fun j => .x (17 + j) [])]
set_option maxRecDepth 100000 in
theorem run_weaker (K A : Value → Nat → List Value → Prop) : (SX.run (cxU0 K A) ⟨fun f => true, [], 0, 100⟩ 100000 0 (SX.door 22 Try.f22 args_weaker (List.replicate 34 .one)) [.code (Try.f22.body.getD .skip), .top Try.f22]).strip = tree_weaker := by kernel_rfl
set_option maxRecDepth 100000 in
set_option maxHeartbeats 4000000 in
theorem weaker_any (a b : Bod.Bd) (w : World) (ha : a.name.size ≤ maxLen) (hb : b.name.size ≤ maxLen) : Calls Try.prog 22 #[valBd a, valBd b] w fun e w' => e = .returned (.tuple #[.bool (weakR a b).1, .int .i64 (weakR a b).2]) ∧ Below w.heap.size w w' := by
  refine SX.calls_of_run (C := cxU0 (fun _ _ _ => False) (fun _ _ _ => False)) (G := ⟨fun f => true, [], 0, 100⟩) (args := args_weaker) (sh := (List.replicate 34 .one)) (ρ := (cellsBd a ++ cellsBd b)) 100000 tree_weaker (okU0 _ _) Try.func22 rfl (run_weaker _ _) (by kernel_rfl) (by kernel_rfl) (by kernel_rfl) ?_ ?_
  · exact fun W _ => SX.Kf_none (fun _ _ _ h => h) W
  unfold tree_weaker
  refine SX.VC_df (.int .i64 a.chk) (fun α => ⟨[⟨valBd a, 0, []⟩], ⟨by kernel_rfl, by kernel_rfl, trivial⟩, ⟨rfl, _, rfl, ha, rfl⟩, SX.noAli rfl⟩) (by kernel_rfl) ?_
  refine SX.VC_df (.bool ((a.chk : Int) != 0)) (by intro α; show _ = _; kernel_rfl) (by kernel_rfl) ?_
  refine SX.VC_br ((a.chk : Int) != 0) (by kernel_rfl) (fun h35 => ?_) (fun h35 => ?_)
  · try simp only [NRM] at h35
    have hE : weakR a b = (false, a.chk) := by rw [weakR, if_pos (by simpa using h35)]
    exact SX.VC_ret fun α W _ _ hS => SX.ret_of hS (x := .tuple #[.bool false, .int .i64 a.chk]) (by kernel_rfl) (by rw [hE])
  · try simp only [NRM] at h35
    refine SX.VC_df (.int .i64 b.chk) (fun α => ⟨[⟨valBd b, 0, []⟩], ⟨by kernel_rfl, by kernel_rfl, trivial⟩, ⟨rfl, _, rfl, hb, rfl⟩, SX.noAli rfl⟩) (by kernel_rfl) ?_
    refine SX.VC_df (.bool ((b.chk : Int) != 0)) (by intro α; show _ = _; kernel_rfl) (by kernel_rfl) ?_
    refine SX.VC_br ((b.chk : Int) != 0) (by kernel_rfl) (fun h37 => ?_) (fun h37 => ?_)
    · try simp only [NRM] at h37
      have hE : weakR a b = (false, b.chk) := by rw [weakR, if_neg (by simpa using h35), if_pos (by simpa using h37)]
      exact SX.VC_ret fun α W _ _ hS => SX.ret_of hS (x := .tuple #[.bool false, .int .i64 b.chk]) (by kernel_rfl) (by rw [hE])
    · try simp only [NRM] at h37
      refine SX.VC_df (.bool (decide (a.t0 > b.t0))) (by intro α; show _ = _; kernel_rfl) (by kernel_rfl) ?_
      refine SX.VC_br (decide (a.t0 > b.t0)) (by kernel_rfl) (fun h38 => ?_) (fun h38 => ?_)
      · try simp only [NRM] at h38
        have hE : weakR a b = (false, 0) := by rw [weakR, if_neg (by simpa using h35), if_neg (by simpa using h37), decide_eq_false (fun hk => by unfold bodyLe at hk; omega)]
        exact SX.VC_ret fun α W _ _ hS => SX.ret_of hS (x := .tuple #[.bool false, .int .i64 0]) (by kernel_rfl) (by rw [hE])
      · try simp only [NRM] at h38
        refine SX.VC_df (.bool (decide (a.t1 > b.t1))) (by intro α; show _ = _; kernel_rfl) (by kernel_rfl) ?_
        refine SX.VC_br (decide (a.t1 > b.t1)) (by kernel_rfl) (fun h39 => ?_) (fun h39 => ?_)
        · try simp only [NRM] at h39
          have hE : weakR a b = (false, 0) := by rw [weakR, if_neg (by simpa using h35), if_neg (by simpa using h37), decide_eq_false (fun hk => by unfold bodyLe at hk; omega)]
          exact SX.VC_ret fun α W _ _ hS => SX.ret_of hS (x := .tuple #[.bool false, .int .i64 0]) (by kernel_rfl) (by rw [hE])
        · try simp only [NRM] at h39
          refine SX.VC_df (.bool (decide (a.t2 > b.t2))) (by intro α; show _ = _; kernel_rfl) (by kernel_rfl) ?_
          refine SX.VC_br (decide (a.t2 > b.t2)) (by kernel_rfl) (fun h40 => ?_) (fun h40 => ?_)
          · try simp only [NRM] at h40
            have hE : weakR a b = (false, 0) := by rw [weakR, if_neg (by simpa using h35), if_neg (by simpa using h37), decide_eq_false (fun hk => by unfold bodyLe at hk; omega)]
            exact SX.VC_ret fun α W _ _ hS => SX.ret_of hS (x := .tuple #[.bool false, .int .i64 0]) (by kernel_rfl) (by rw [hE])
          · try simp only [NRM] at h40
            refine SX.VC_df (.bool (decide (a.s0 > b.s0))) (by intro α; show _ = _; kernel_rfl) (by kernel_rfl) ?_
            refine SX.VC_br (decide (a.s0 > b.s0)) (by kernel_rfl) (fun h41 => ?_) (fun h41 => ?_)
            · try simp only [NRM] at h41
              have hE : weakR a b = (false, 0) := by rw [weakR, if_neg (by simpa using h35), if_neg (by simpa using h37), decide_eq_false (fun hk => by unfold bodyLe at hk; omega)]
              exact SX.VC_ret fun α W _ _ hS => SX.ret_of hS (x := .tuple #[.bool false, .int .i64 0]) (by kernel_rfl) (by rw [hE])
            · try simp only [NRM] at h41
              refine SX.VC_df (.bool (decide (a.s1 > b.s1))) (by intro α; show _ = _; kernel_rfl) (by kernel_rfl) ?_
              refine SX.VC_br (decide (a.s1 > b.s1)) (by kernel_rfl) (fun h42 => ?_) (fun h42 => ?_)
              · try simp only [NRM] at h42
                have hE : weakR a b = (false, 0) := by rw [weakR, if_neg (by simpa using h35), if_neg (by simpa using h37), decide_eq_false (fun hk => by unfold bodyLe at hk; omega)]
                exact SX.VC_ret fun α W _ _ hS => SX.ret_of hS (x := .tuple #[.bool false, .int .i64 0]) (by kernel_rfl) (by rw [hE])
              · try simp only [NRM] at h42
                refine SX.VC_df (.bool (decide (a.s2 > b.s2))) (by intro α; show _ = _; kernel_rfl) (by kernel_rfl) ?_
                refine SX.VC_br (decide (a.s2 > b.s2)) (by kernel_rfl) (fun h43 => ?_) (fun h43 => ?_)
                · try simp only [NRM] at h43
                  have hE : weakR a b = (false, 0) := by rw [weakR, if_neg (by simpa using h35), if_neg (by simpa using h37), decide_eq_false (fun hk => by unfold bodyLe at hk; omega)]
                  exact SX.VC_ret fun α W _ _ hS => SX.ret_of hS (x := .tuple #[.bool false, .int .i64 0]) (by kernel_rfl) (by rw [hE])
                · try simp only [NRM] at h43
                  refine SX.VC_df (.bool (decide (a.step > b.step))) (by intro α; show _ = _; kernel_rfl) (by kernel_rfl) ?_
                  refine SX.VC_br (decide (a.step > b.step)) (by kernel_rfl) (fun h44 => ?_) (fun h44 => ?_)
                  · try simp only [NRM] at h44
                    have hE : weakR a b = (false, 0) := by rw [weakR, if_neg (by simpa using h35), if_neg (by simpa using h37), decide_eq_false (fun hk => by unfold bodyLe at hk; omega)]
                    exact SX.VC_ret fun α W _ _ hS => SX.ret_of hS (x := .tuple #[.bool false, .int .i64 0]) (by kernel_rfl) (by rw [hE])
                  · try simp only [NRM] at h44
                    refine SX.VC_df (.bool (decide (a.jump > b.jump))) (by intro α; show _ = _; kernel_rfl) (by kernel_rfl) ?_
                    refine SX.VC_br (decide (a.jump > b.jump)) (by kernel_rfl) (fun h45 => ?_) (fun h45 => ?_)
                    · try simp only [NRM] at h45
                      have hE : weakR a b = (false, 0) := by rw [weakR, if_neg (by simpa using h35), if_neg (by simpa using h37), decide_eq_false (fun hk => by unfold bodyLe at hk; omega)]
                      exact SX.VC_ret fun α W _ _ hS => SX.ret_of hS (x := .tuple #[.bool false, .int .i64 0]) (by kernel_rfl) (by rw [hE])
                    · try simp only [NRM] at h45
                      refine SX.VC_df (.bool (decide (a.lift > b.lift))) (by intro α; show _ = _; kernel_rfl) (by kernel_rfl) ?_
                      refine SX.VC_br (decide (a.lift > b.lift)) (by kernel_rfl) (fun h46 => ?_) (fun h46 => ?_)
                      · try simp only [NRM] at h46
                        have hE : weakR a b = (false, 0) := by rw [weakR, if_neg (by simpa using h35), if_neg (by simpa using h37), decide_eq_false (fun hk => by unfold bodyLe at hk; omega)]
                        exact SX.VC_ret fun α W _ _ hS => SX.ret_of hS (x := .tuple #[.bool false, .int .i64 0]) (by kernel_rfl) (by rw [hE])
                      · try simp only [NRM] at h46
                        refine SX.VC_df (.bool (decide (a.effort > b.effort))) (by intro α; show _ = _; kernel_rfl) (by kernel_rfl) ?_
                        refine SX.VC_br (decide (a.effort > b.effort)) (by kernel_rfl) (fun h47 => ?_) (fun h47 => ?_)
                        · try simp only [NRM] at h47
                          have hE : weakR a b = (false, 0) := by rw [weakR, if_neg (by simpa using h35), if_neg (by simpa using h37), decide_eq_false (fun hk => by unfold bodyLe at hk; omega)]
                          exact SX.VC_ret fun α W _ _ hS => SX.ret_of hS (x := .tuple #[.bool false, .int .i64 0]) (by kernel_rfl) (by rw [hE])
                        · try simp only [NRM] at h47
                          refine SX.VC_df (.bool (false ^^ decide ((⟨a.name, a.weight, b.lift, a.girth, b.step, b.jump, a.r0, a.r1, a.r2, b.s0, b.s1, b.s2, b.t0, b.t1, b.t2, b.effort, a.recover⟩ : Bod.Bd) = b))) (fun α => SX.eqr_rel (f := cellsBd) cellsBd_inj (y := (⟨a.name, a.weight, b.lift, a.girth, b.step, b.jump, a.r0, a.r1, a.r2, b.s0, b.s1, b.s2, b.t0, b.t1, b.t2, b.effort, a.recover⟩ : Bod.Bd)) (z := b) (by kernel_rfl) (by kernel_rfl) (by kernel_rfl)) (by kernel_rfl) ?_
                          have hE : weakR a b = (false ^^ decide ((⟨a.name, a.weight, b.lift, a.girth, b.step, b.jump, a.r0, a.r1, a.r2, b.s0, b.s1, b.s2, b.t0, b.t1, b.t2, b.effort, a.recover⟩ : Bod.Bd) = b), 0) := by rw [weakR, if_neg (by simpa using h35), if_neg (by simpa using h37)]; congr 1; rw [Bool.false_xor, Bool.eq_iff_iff, decide_eq_true_eq, decide_eq_true_eq, mix_iff]; exact ⟨fun h => ⟨h.1, h.2.1, h.2.2.1, h.2.2.2.1, h.2.2.2.2.1, h.2.2.2.2.2.1, h.2.2.2.2.2.2.1⟩, fun ⟨h1, h2, h3, h4, h5, h6, h7⟩ => ⟨h1, h2, h3, h4, h5, h6, h7, by omega, by omega, by omega, by omega, by omega, by omega, by omega, by omega, by omega, by omega⟩⟩
                          exact SX.VC_ret fun α W _ _ hS => SX.ret_of hS (x := .tuple #[.bool (false ^^ decide ((⟨a.name, a.weight, b.lift, a.girth, b.step, b.jump, a.r0, a.r1, a.r2, b.s0, b.s1, b.s2, b.t0, b.t1, b.t2, b.effort, a.recover⟩ : Bod.Bd) = b)), .int .i64 0]) (by kernel_rfl) (by rw [hE])
def tree_keepsW : SX.Tree :=
(.df (.bin .eql 3) [(.x 17 []), (.k (.int .i64 1))] .one 
(.br 20 [] 
(.df (.bin .geq 3) [(.x 18 []), (.k (.int .i64 0))] .one 
(.br 21 [] 
(.df (.bin .lss 3) [(.x 18 []), (.k (.int .i64 3))] .one 
(.br 22 [] 
(.sp 18 [] [
(.df (.bin .leq 3) [(.x 12 []), (.x 19 [])] .one 
(.ret (.x 23 []) [] [])), 
(.df (.bin .leq 3) [(.x 13 []), (.x 19 [])] .one 
(.ret (.x 23 []) [] [])), 
(.df (.bin .leq 3) [(.x 14 []), (.x 19 [])] .one 
(.ret (.x 23 []) [] []))]) 
(.ret (.k (.bool false)) [] []))) 
(.ret (.k (.bool false)) [] []))) 
(.df (.bin .eql 3) [(.x 17 []), (.k (.int .i64 2))] .one 
(.br 21 [] 
(.df (.bin .geq 3) [(.x 18 []), (.k (.int .i64 0))] .one 
(.br 22 [] 
(.df (.bin .lss 3) [(.x 18 []), (.k (.int .i64 3))] .one 
(.br 23 [] 
(.sp 18 [] [
(.df (.bin .leq 3) [(.x 9 []), (.x 19 [])] .one 
(.ret (.x 24 []) [] [])), 
(.df (.bin .leq 3) [(.x 10 []), (.x 19 [])] .one 
(.ret (.x 24 []) [] [])), 
(.df (.bin .leq 3) [(.x 11 []), (.x 19 [])] .one 
(.ret (.x 24 []) [] []))]) 
(.ret (.k (.bool false)) [] []))) 
(.ret (.k (.bool false)) [] []))) 
(.df (.bin .eql 3) [(.x 17 []), (.k (.int .i64 3))] .one 
(.br 22 [] 
(.df (.bin .leq 3) [(.x 4 []), (.x 19 [])] .one 
(.ret (.x 23 []) [] [])) 
(.df (.bin .eql 3) [(.x 17 []), (.k (.int .i64 4))] .one 
(.br 23 [] 
(.df (.bin .leq 3) [(.x 5 []), (.x 19 [])] .one 
(.ret (.x 24 []) [] [])) 
(.df (.bin .eql 3) [(.x 17 []), (.k (.int .i64 5))] .one 
(.br 24 [] 
(.df (.bin .leq 3) [(.x 2 []), (.x 19 [])] .one 
(.ret (.x 25 []) [] [])) 
(.df (.bin .eql 3) [(.x 17 []), (.k (.int .i64 6))] .one 
(.br 25 [] 
(.df (.bin .leq 3) [(.x 15 []), (.x 19 [])] .one 
(.ret (.x 26 []) [] [])) 
(.ret (.k (.bool false)) [] [])))))))))))))
def args_keepsW : List SX.V := [.a ((List.range 17).map fun j => .x (0 + j) []), .a [.x 17 [], .x 18 [], .x 19 []]]
set_option maxRecDepth 100000 in
theorem run_keepsW (K A : Value → Nat → List Value → Prop) : (SX.run (cx0 K A) ⟨fun f => true, [], 0, 100⟩ 100000 0 (SX.door 23 Try.f23 args_keepsW (List.replicate 20 .one)) [.code (Try.f23.body.getD .skip), .top Try.f23]).strip = tree_keepsW := by kernel_rfl
set_option maxRecDepth 100000 in
set_option maxHeartbeats 4000000 in
theorem keepsW_any (b : Bod.Bd) (zk zl zn : Int) (w : World) (hcap : capOk zk zl zn) (hok : (⟨zk, zl, zn⟩ : Bod.Cp).ok = true) : Calls Try.prog 23 #[valBd b, valCp ⟨zk, zl, zn⟩] w fun e w' => e = .returned (.bool (keepV b ⟨zk, zl, zn⟩)) ∧ Below w.heap.size w w' := by
  refine SX.calls_of_run (C := cx0 (fun _ _ _ => False) (fun _ _ _ => False)) (G := ⟨fun f => true, [], 0, 100⟩) (args := args_keepsW) (sh := (List.replicate 20 .one)) (ρ := (cellsBd b ++ cellsCp ⟨zk, zl, zn⟩)) 100000 tree_keepsW (cx0_ok _ _) Try.func23 rfl (run_keepsW _ _) (by kernel_rfl) (by kernel_rfl) (by kernel_rfl) ?_ ?_
  · exact fun W _ => SX.Kf_none (fun _ _ _ h => h) W
  unfold tree_keepsW
  refine SX.VC_df (.bool ((zk : Int) == 1)) (by intro α; show _ = _; kernel_rfl) (by kernel_rfl) ?_
  refine SX.VC_br ((zk : Int) == 1) (by kernel_rfl) (fun h20 => ?_) (fun h20 => ?_)
  · try simp only [NRM] at h20
    refine SX.VC_df (.bool (decide (zl ≥ 0))) (by intro α; show _ = _; kernel_rfl) (by kernel_rfl) ?_
    refine SX.VC_br (decide (zl ≥ 0)) (by kernel_rfl) (fun h21 => ?_) (fun h21 => absurd h21 (by have q : zk = 1 := (by simpa using h20); subst q; unfold capOk at hcap; simp; omega))
    try simp only [NRM] at h21
    refine SX.VC_df (.bool (decide (zl < 3))) (by intro α; show _ = _; kernel_rfl) (by kernel_rfl) ?_
    refine SX.VC_br (decide (zl < 3)) (by kernel_rfl) (fun h22 => ?_) (fun h22 => absurd h22 (by have q : zk = 1 := (by simpa using h20); subst q; unfold capOk at hcap; simp; omega))
    try simp only [NRM] at h22
    obtain ⟨m, rfl⟩ : ∃ m : Nat, zl = m := ⟨zl.toNat, by unfold capOk at hcap; omega⟩
    have hm : m = 0 ∨ m = 1 ∨ m = 2 := by unfold capOk at hcap; omega
    refine SX.VC_sp m (by show m < 3; omega) (by kernel_rfl) fun t ht => ?_
    rcases hm with rfl | rfl | rfl
    · cases (Option.some.inj ht)
      refine SX.VC_df (.bool (decide (b.t0 ≤ zn))) (by intro α; show _ = _; kernel_rfl) (by kernel_rfl) ?_
      have hk : zk = 1 := by simpa using h20
      subst hk
      exact SX.VC_ret fun α W _ _ hS => SX.ret_of hS (x := .bool (decide (b.t0 ≤ zn))) (by kernel_rfl) (by rw [keepV, hok]; first | rfl | kernel_rfl)
    · cases (Option.some.inj ht)
      refine SX.VC_df (.bool (decide (b.t1 ≤ zn))) (by intro α; show _ = _; kernel_rfl) (by kernel_rfl) ?_
      have hk : zk = 1 := by simpa using h20
      subst hk
      exact SX.VC_ret fun α W _ _ hS => SX.ret_of hS (x := .bool (decide (b.t1 ≤ zn))) (by kernel_rfl) (by rw [keepV, hok]; first | rfl | kernel_rfl)
    · cases (Option.some.inj ht)
      refine SX.VC_df (.bool (decide (b.t2 ≤ zn))) (by intro α; show _ = _; kernel_rfl) (by kernel_rfl) ?_
      have hk : zk = 1 := by simpa using h20
      subst hk
      exact SX.VC_ret fun α W _ _ hS => SX.ret_of hS (x := .bool (decide (b.t2 ≤ zn))) (by kernel_rfl) (by rw [keepV, hok]; first | rfl | kernel_rfl)
  · try simp only [NRM] at h20
    refine SX.VC_df (.bool ((zk : Int) == 2)) (by intro α; show _ = _; kernel_rfl) (by kernel_rfl) ?_
    refine SX.VC_br ((zk : Int) == 2) (by kernel_rfl) (fun h21 => ?_) (fun h21 => ?_)
    · try simp only [NRM] at h21
      refine SX.VC_df (.bool (decide (zl ≥ 0))) (by intro α; show _ = _; kernel_rfl) (by kernel_rfl) ?_
      refine SX.VC_br (decide (zl ≥ 0)) (by kernel_rfl) (fun h22 => ?_) (fun h22 => absurd h22 (by have q : zk = 2 := (by simpa using h21); subst q; unfold capOk at hcap; simp; omega))
      try simp only [NRM] at h22
      refine SX.VC_df (.bool (decide (zl < 3))) (by intro α; show _ = _; kernel_rfl) (by kernel_rfl) ?_
      refine SX.VC_br (decide (zl < 3)) (by kernel_rfl) (fun h23 => ?_) (fun h23 => absurd h23 (by have q : zk = 2 := (by simpa using h21); subst q; unfold capOk at hcap; simp; omega))
      try simp only [NRM] at h23
      obtain ⟨m, rfl⟩ : ∃ m : Nat, zl = m := ⟨zl.toNat, by unfold capOk at hcap; omega⟩
      have hm : m = 0 ∨ m = 1 ∨ m = 2 := by unfold capOk at hcap; omega
      refine SX.VC_sp m (by show m < 3; omega) (by kernel_rfl) fun t ht => ?_
      rcases hm with rfl | rfl | rfl
      · cases (Option.some.inj ht)
        refine SX.VC_df (.bool (decide (b.s0 ≤ zn))) (by intro α; show _ = _; kernel_rfl) (by kernel_rfl) ?_
        have hk : zk = 2 := by simpa using h21
        subst hk
        exact SX.VC_ret fun α W _ _ hS => SX.ret_of hS (x := .bool (decide (b.s0 ≤ zn))) (by kernel_rfl) (by rw [keepV, hok]; first | rfl | kernel_rfl)
      · cases (Option.some.inj ht)
        refine SX.VC_df (.bool (decide (b.s1 ≤ zn))) (by intro α; show _ = _; kernel_rfl) (by kernel_rfl) ?_
        have hk : zk = 2 := by simpa using h21
        subst hk
        exact SX.VC_ret fun α W _ _ hS => SX.ret_of hS (x := .bool (decide (b.s1 ≤ zn))) (by kernel_rfl) (by rw [keepV, hok]; first | rfl | kernel_rfl)
      · cases (Option.some.inj ht)
        refine SX.VC_df (.bool (decide (b.s2 ≤ zn))) (by intro α; show _ = _; kernel_rfl) (by kernel_rfl) ?_
        have hk : zk = 2 := by simpa using h21
        subst hk
        exact SX.VC_ret fun α W _ _ hS => SX.ret_of hS (x := .bool (decide (b.s2 ≤ zn))) (by kernel_rfl) (by rw [keepV, hok]; first | rfl | kernel_rfl)
    · try simp only [NRM] at h21
      refine SX.VC_df (.bool ((zk : Int) == 3)) (by intro α; show _ = _; kernel_rfl) (by kernel_rfl) ?_
      refine SX.VC_br ((zk : Int) == 3) (by kernel_rfl) (fun h22 => ?_) (fun h22 => ?_)
      · try simp only [NRM] at h22
        refine SX.VC_df (.bool (decide (b.step ≤ zn))) (by intro α; show _ = _; kernel_rfl) (by kernel_rfl) ?_
        have hk : zk = 3 := by simpa using h22
        subst hk
        exact SX.VC_ret fun α W _ _ hS => SX.ret_of hS (x := .bool (decide (b.step ≤ zn))) (by kernel_rfl) (by rw [keepV, hok]; first | rfl | kernel_rfl)
      · try simp only [NRM] at h22
        refine SX.VC_df (.bool ((zk : Int) == 4)) (by intro α; show _ = _; kernel_rfl) (by kernel_rfl) ?_
        refine SX.VC_br ((zk : Int) == 4) (by kernel_rfl) (fun h23 => ?_) (fun h23 => ?_)
        · try simp only [NRM] at h23
          refine SX.VC_df (.bool (decide (b.jump ≤ zn))) (by intro α; show _ = _; kernel_rfl) (by kernel_rfl) ?_
          have hk : zk = 4 := by simpa using h23
          subst hk
          exact SX.VC_ret fun α W _ _ hS => SX.ret_of hS (x := .bool (decide (b.jump ≤ zn))) (by kernel_rfl) (by rw [keepV, hok]; first | rfl | kernel_rfl)
        · try simp only [NRM] at h23
          refine SX.VC_df (.bool ((zk : Int) == 5)) (by intro α; show _ = _; kernel_rfl) (by kernel_rfl) ?_
          refine SX.VC_br ((zk : Int) == 5) (by kernel_rfl) (fun h24 => ?_) (fun h24 => ?_)
          · try simp only [NRM] at h24
            refine SX.VC_df (.bool (decide (b.lift ≤ zn))) (by intro α; show _ = _; kernel_rfl) (by kernel_rfl) ?_
            have hk : zk = 5 := by simpa using h24
            subst hk
            exact SX.VC_ret fun α W _ _ hS => SX.ret_of hS (x := .bool (decide (b.lift ≤ zn))) (by kernel_rfl) (by rw [keepV, hok]; first | rfl | kernel_rfl)
          · try simp only [NRM] at h24
            refine SX.VC_df (.bool ((zk : Int) == 6)) (by intro α; show _ = _; kernel_rfl) (by kernel_rfl) ?_
            refine SX.VC_br ((zk : Int) == 6) (by kernel_rfl) (fun h25 => ?_) (fun h25 => ?_)
            · try simp only [NRM] at h25
              refine SX.VC_df (.bool (decide (b.effort ≤ zn))) (by intro α; show _ = _; kernel_rfl) (by kernel_rfl) ?_
              have hk : zk = 6 := by simpa using h25
              subst hk
              exact SX.VC_ret fun α W _ _ hS => SX.ret_of hS (x := .bool (decide (b.effort ≤ zn))) (by kernel_rfl) (by rw [keepV, hok]; first | rfl | kernel_rfl)
            · try simp only [NRM] at h25
              exact absurd hcap (by unfold capOk; omega)
end Go.Proofs.Ytmkigejhgpoleaa
namespace Go.Proofs.Ytmkigejhgpoleaa
set_option linter.unusedSimpArgs false
set_option linter.unusedVariables false
open Go Go.RowKit
theorem elem_cap {z : Lim} (h : elemOk z) (hc : (z.kind, z.limb, z.n) ≠ (0, 0, 0)) : capOk z.kind z.limb z.n := by
  rcases (elemOk_iff.1 h).2.2.2.2.2 with h | ⟨h1, h2, h3, _⟩
  · exact h
  · exact absurd (by rw [h1, h2, h3]) hc
theorem cap_stand {ls : List Lim} {p d t : Int} {z : Lim} (hk : okL ls) (hz : z ∈ standL ls p d t) : capOk z.kind z.limb z.n := by
  obtain ⟨h1, h2⟩ := mem_stand.1 hz
  exact elem_cap (okL_mem hk h1) (standE_iff.1 h2).2.2.2.2.1
theorem cap_ok {z : Lim} (h : capOk z.kind z.limb z.n) : (capOf z).ok = true := by
  have q := capOk_ok (capOf z)
  unfold capOf at q ⊢
  rw [← q, decide_eq_true_eq]; exact h
theorem standR_cap {ls : List Lim} {p d t : Int} {z : Lim} (hz : z ∈ (standR ls p d t).1) : capOk z.kind z.limb z.n := by
  by_cases h : (standR ls p d t).2 = 0
  · obtain ⟨h1, h2, h3⟩ := standR_ok h
    rw [h3] at hz
    exact cap_stand (chkL_zero h1).2 hz
  · rw [standR_no h] at hz; cases hz
theorem caps_ok (ls : List Lim) (p d t : Int) : (capsL (standR ls p d t).1).all Bod.Cp.ok = true := by
  rw [List.all_eq_true]
  intro c hc
  obtain ⟨z, hz, rfl⟩ := List.mem_map.1 hc
  exact cap_ok (standR_cap hz)
/-- when there is no body in force -/
theorem inf_err {b : Bod.Bd} {ls : List Lim} {p d t : Int} (h : (inForceR b ls p d t).2 ≠ 0) : (inForceR b ls p d t).2 = b.chk ∨ (inForceR b ls p d t).2 = (standR ls p d t).2 ∨ ((inForceR b ls p d t).2 = 2 ∧ 64 < (standR ls p d t).1.length) := by
  unfold inForceR at h ⊢
  by_cases h1 : b.chk = 0
  · rw [if_neg (by simpa using h1)] at h ⊢
    by_cases h2 : (standR ls p d t).2 = 0
    · rw [if_neg (by simpa using h2)] at h ⊢
      refine .inr (.inr ?_)
      have h : b.allE (capsL (standR ls p d t).1) ≠ 0 := h
      show b.allE (capsL (standR ls p d t).1) = 2 ∧ _
      unfold Bod.Bd.allE at h ⊢
      rw [if_pos (chk0.1 h1), if_pos (caps_ok ls p d t)] at *
      split at h
      · rename_i h3
        rw [if_pos h3]
        exact ⟨rfl, by simpa [capsL] using h3⟩
      · exact absurd rfl h
    · rw [if_pos h2]; exact .inr (.inl rfl)
  · rw [if_pos h1]; exact .inl rfl
theorem inf_ok {b : Bod.Bd} {ls : List Lim} {p d t : Int} (h : (inForceR b ls p d t).2 = 0) : b.okB = true ∧ (standR ls p d t).2 = 0 ∧ (inForceR b ls p d t).1 = b.meets (capsL (standR ls p d t).1) := by
  unfold inForceR at h ⊢
  by_cases h1 : b.chk = 0
  · rw [if_neg (by simpa using h1)] at h ⊢
    by_cases h2 : (standR ls p d t).2 = 0
    · rw [if_neg (by simpa using h2)] at h ⊢
      have h : b.allE (capsL (standR ls p d t).1) = 0 := h
      rcases all_cases b (capsL (standR ls p d t).1) with ⟨k1, _⟩ | ⟨_, k2, k3, _⟩
      · exact absurd h k1
      · exact ⟨k3, h2, k2⟩
    · rw [if_pos h2] at h; exact absurd h h2
  · rw [if_pos h1] at h; exact absurd h h1
theorem inf_mk {b : Bod.Bd} {ls : List Lim} {p d t : Int} (h1 : b.okB = true) (h2 : (standR ls p d t).2 = 0) (h3 : (standR ls p d t).1.length ≤ 64) : inForceR b ls p d t = (b.meets (capsL (standR ls p d t).1), 0) := by
  unfold inForceR
  rw [if_neg (by simpa using chk0.2 h1), if_neg (by simpa using h2)]
  obtain ⟨k1, k2⟩ := Bod.Bd.all_yes (b := b) (l := capsL (standR ls p d t).1) h1 (by rw [capsL, List.length_map]; omega) (caps_ok ls p d t)
  rw [k1, k2]
theorem inf_out {b : Bod.Bd} {ls : List Lim} {p d t : Int} (h1 : b.okB = true) (h2 : (standR ls p d t).2 ≠ 0) : inForceR b ls p d t = (Bod.Bd.zero, (standR ls p d t).2) := by
  unfold inForceR
  rw [if_neg (by simpa using chk0.2 h1), if_pos h2]
theorem inf_name {b : Bod.Bd} {ls : List Lim} {p d t : Int} (h : (inForceR b ls p d t).2 = 0) : (inForceR b ls p d t).1.name = b.name := by
  rw [(inf_ok h).2.2, meets_name]
theorem weak_mk {a b : Bod.Bd} (ha : a.okB = true) (hb : b.okB = true) (h : bodyLe a b) : weakR a b = (true, 0) := by
  unfold weakR
  rw [if_neg (by simpa using chk0.2 ha), if_neg (by simpa using chk0.2 hb), decide_eq_true h]
theorem weak_yes {a b : Bod.Bd} (h : (weakR a b).2 = 0) (hf : (weakR a b).1 = true) : a.okB = true ∧ b.okB = true ∧ bodyLe a b := by
  unfold weakR at h hf
  by_cases h1 : a.chk = 0
  · rw [if_neg (by simpa using h1)] at h hf
    by_cases h2 : b.chk = 0
    · rw [if_neg (by simpa using h2)] at h hf
      exact ⟨chk0.1 h1, chk0.1 h2, of_decide_eq_true hf⟩
    · rw [if_pos h2] at h; exact absurd h h2
  · rw [if_pos h1] at h; exact absurd h h1
/-- the body in force is weaker, and keeps what stands -/
theorem great_weak {b : Bod.Bd} {ls : List Lim} {p d t : Int} (h : (inForceR b ls p d t).2 = 0) : weakR (inForceR b ls p d t).1 b = (true, 0) := by
  obtain ⟨h1, h2, h3⟩ := inf_ok h
  rw [h3]
  exact weak_mk (meets_ok _ _ h1 (caps_ok ls p d t)) h1 (meets_le _ _ (caps_ok ls p d t))
theorem great_keep {b : Bod.Bd} {ls : List Lim} {p d t : Int} (h : (inForceR b ls p d t).2 = 0) {z : Lim} (hz : z ∈ (standR ls p d t).1) : keepV (inForceR b ls p d t).1 (capOf z) = true := by
  obtain ⟨h1, h2, h3⟩ := inf_ok h
  rw [h3]
  exact List.all_eq_true.1 (meets_keeps (capsL (standR ls p d t).1) b (caps_ok ls p d t)) _ (List.mem_map_of_mem hz)
theorem great_most {o b : Bod.Bd} {ls : List Lim} {p d t : Int} (h : (inForceR b ls p d t).2 = 0) (hw : (weakR o b).2 = 0) (hf : (weakR o b).1 = true) (hk : ∀ z ∈ (standR ls p d t).1, keepV o (capOf z) = true) : weakR o (inForceR b ls p d t).1 = (true, 0) := by
  obtain ⟨h1, h2, h3⟩ := inf_ok h
  obtain ⟨k1, k2, k3⟩ := weak_yes hw hf
  rw [h3]
  refine weak_mk k1 (meets_ok _ _ h1 (caps_ok ls p d t)) (meets_great _ _ _ (caps_ok ls p d t) k3 ?_)
  unfold keepsV
  rw [List.all_eq_true]
  intro c hc
  obtain ⟨z, hz, rfl⟩ := List.mem_map.1 hc
  exact hk z hz
/-- what stands when a further limit is added that replaces nothing -/
theorem stand_add {ls : List Lim} {x : Lim} {p d t : Int} (hx : (addR ls x).2 = 0) (h0 : x.of_ = 0) (z : Lim) : z ∈ standL (addR ls x).1 p d t ↔ z ∈ standL ls p d t ∨ (z = x ∧ x.person = p ∧ x.known ≤ t ∧ x.from_ ≤ d ∧ d ≤ x.to_) := by
  obtain ⟨hk0, hnm, _, _⟩ := addR_ok hx
  have hk := (chkL_zero hk0).2
  have hxe := elemOk_iff.1 (add_elem hx)
  rw [mem_stand, mem_stand, mem_add hx, standE_iff, standE_iff]
  constructor
  · rintro ⟨rfl | hz, h1, h2, h3, h4, h5, h6⟩
    · exact .inr ⟨rfl, h1, h2, h3, h4⟩
    · exact .inl ⟨hz, h1, h2, h3, h4, h5, fun ⟨y, hy, hq⟩ => h6 ⟨y, (mem_add hx).2 (.inr hy), hq⟩⟩
  · rintro (⟨hz, h1, h2, h3, h4, h5, h6⟩ | ⟨rfl, h1, h2, h3, h4⟩)
    · refine ⟨.inr hz, h1, h2, h3, h4, h5, ?_⟩
      rintro ⟨y, hy, hq, hr⟩
      rcases (mem_add hx).1 hy with rfl | hy
      · have := (elemOk_iff.1 (okL_mem hk hz)).1; omega
      · exact h6 ⟨y, hy, hq, hr⟩
    · refine ⟨.inl rfl, h1, h2, h3, h4, ?_, ?_⟩
      · intro hc
        simp only [Prod.mk.injEq] at hc
        rcases hxe.2.2.2.2.2 with hq | hq
        · unfold capOk at hq; omega
        · omega
      · rintro ⟨y, hy, hq, hr⟩
        rcases (mem_add hx).1 hy with rfl | hy
        · have := hxe.1; omega
        · exact not_repl hk hnm (by have := hxe.1; omega) hy hq
section
variable {b : Bod.Bd} {ls : List Lim} {x : Lim} {p d t : Int}
theorem standR_len (hl : ls.length ≤ 64) : (standR ls p d t).1.length ≤ 64 := by
  by_cases h : (standR ls p d t).2 = 0
  · rw [(standR_ok h).2.2]
    exact Nat.le_trans (List.length_filter_le _ _) hl
  · rw [standR_no h]; simp
end
section
variable {b : Bod.Bd} {ls : List Lim} {x : Lim} {p d t : Int}
theorem further_err (hx : (addR ls x).2 = 0) (hl : ls.length ≤ 60) : (inForceR b ls p d t).2 = (inForceR b (addR ls x).1 p d t).2 := by
  have hs := further_stand (p := p) (d := d) (t := t) hx
  by_cases h1 : b.okB = true
  · by_cases h2 : (standR ls p d t).2 = 0
    · rw [inf_mk h1 h2 (standR_len (by omega)), inf_mk h1 (hs.trans h2) (standR_len (by rw [addR_len hx]; omega))]
    · rw [inf_out h1 h2, inf_out h1 (by rw [hs]; exact h2), hs]
  · unfold inForceR
    have : b.chk ≠ 0 := fun h => h1 (chk0.1 h)
    rw [if_pos this, if_pos this]
end
section
variable {b : Bod.Bd} {ls : List Lim} {x : Lim} {p d t : Int}
theorem further_same (hx : (addR ls x).2 = 0) (h0 : x.of_ = 0) (h : (inForceR b ls p d t).2 = 0) (h' : (inForceR b (addR ls x).1 p d t).2 = 0) (hn : ¬ (x.person = p ∧ x.known ≤ t ∧ x.from_ ≤ d ∧ d ≤ x.to_)) : (inForceR b ls p d t).1 = (inForceR b (addR ls x).1 p d t).1 := by
  obtain ⟨h1, h2, h3⟩ := inf_ok h
  obtain ⟨g1, g2, g3⟩ := inf_ok h'
  rw [h3, g3]
  refine meets_same (caps_ok ls p d t) fun c => ?_
  rw [(standR_ok h2).2.2, (standR_ok g2).2.2]
  unfold capsL
  simp only [List.mem_map, stand_add hx h0]
  constructor
  · rintro ⟨z, hz, rfl⟩; exact ⟨z, .inl hz, rfl⟩
  · rintro ⟨z, hz | ⟨_, hz⟩, rfl⟩
    · exact ⟨z, hz, rfl⟩
    · exact absurd hz hn
end
section
variable {b : Bod.Bd} {ls : List Lim} {x : Lim} {p d t : Int}
theorem further_le (hx : (addR ls x).2 = 0) (h0 : x.of_ = 0) (h : (inForceR b ls p d t).2 = 0) (h' : (inForceR b (addR ls x).1 p d t).2 = 0) : weakR (inForceR b (addR ls x).1 p d t).1 (inForceR b ls p d t).1 = (true, 0) := by
  obtain ⟨h1, h2, h3⟩ := inf_ok h
  obtain ⟨g1, g2, g3⟩ := inf_ok h'
  rw [h3, g3]
  refine weak_mk (meets_ok _ _ h1 (caps_ok _ p d t)) (meets_ok _ _ h1 (caps_ok _ p d t)) (meets_sub (caps_ok _ p d t) fun c => ?_)
  rw [(standR_ok h2).2.2, (standR_ok g2).2.2]
  unfold capsL
  simp only [List.mem_map, stand_add hx h0]
  rintro ⟨z, hz, rfl⟩; exact ⟨z, .inl hz, rfl⟩
end
section
variable {b : Bod.Bd} {ls : List Lim} {x : Lim} {p d t : Int}
theorem further_cap (hx : (addR ls x).2 = 0) (h0 : x.of_ = 0) : capOk x.kind x.limb x.n := by
  rcases (elemOk_iff.1 (add_elem hx)).2.2.2.2.2 with h | ⟨_, _, _, h⟩
  · exact h
  · exact absurd h0 h
end
section
variable {b : Bod.Bd} {ls : List Lim} {x : Lim} {p d t : Int}
theorem further_keep (hx : (addR ls x).2 = 0) (h0 : x.of_ = 0) (h' : (inForceR b (addR ls x).1 p d t).2 = 0) (hn : x.person = p ∧ x.known ≤ t ∧ x.from_ ≤ d ∧ d ≤ x.to_) : keepV (inForceR b (addR ls x).1 p d t).1 (capOf x) = true := by
  refine great_keep h' ?_
  rw [(standR_ok (inf_ok h').2.1).2.2]
  exact (stand_add hx h0 x).2 (.inr ⟨rfl, hn⟩)
end
/-- what is known of bodies and limits -/
def RG (f : FuncId) (xs : List SX.Arg) (v : Value) : Prop :=
  (f = 14 ∧ ∃ (u : Value) (ls : List Lim), xs = [⟨u, 9, lmL ls⟩] ∧ ls.length ≤ 9223372036854775807 ∧ fitLm ls ∧ v = .int .i64 (chkL ls)) ∨
  (f = 16 ∧ ∃ (u u2 : Value) (ls ms : List Lim), xs = [⟨u, 9, lmL ls⟩, ⟨u2, 9, lmL ms⟩] ∧ ls.length ≤ 9223372036854775807 ∧ ms.length ≤ 9223372036854775807 ∧ v = .bool (decide (ls = ms))) ∨
  (f = 12 ∧ ∃ (u : Value) (ls : List Lim) (x : Lim), xs = [⟨u, 9, lmL ls⟩, ⟨valLm x, 0, []⟩] ∧ ls.length ≤ 9223372036854775807 ∧ fitLm ls ∧ fitI x.of_ ∧ v = .tuple #[.agg (lmL (addR ls x).1).toArray, .int .i64 (addR ls x).2]) ∨
  (f = 17 ∧ ∃ (u : Value) (ls : List Lim) (p d t : Int), xs = [⟨u, 9, lmL ls⟩, ⟨.int .i64 p, 0, []⟩, ⟨.int .i64 d, 0, []⟩, ⟨.int .i64 t, 0, []⟩] ∧ ls.length ≤ 9223372036854775807 ∧ fitLm ls ∧ v = .tuple #[.agg (lmL (standR ls p d t).1).toArray, .int .i64 (standR ls p d t).2]) ∨
  (f = 19 ∧ ∃ (b : Bod.Bd) (u : Value) (ls : List Lim) (p d t : Int), xs = [⟨valBd b, 0, []⟩, ⟨u, 9, lmL ls⟩, ⟨.int .i64 p, 0, []⟩, ⟨.int .i64 d, 0, []⟩, ⟨.int .i64 t, 0, []⟩] ∧ b.name.size ≤ maxLen ∧ ls.length ≤ 9223372036854775807 ∧ fitLm ls ∧ v = .tuple #[valBd (inForceR b ls p d t).1, .int .i64 (inForceR b ls p d t).2]) ∨
  (f = 10 ∧ xs = [] ∧ v = .bool true) ∨
  (f = 21 ∧ ∃ b : Bod.Bd, xs = [⟨valBd b, 0, []⟩] ∧ b.name.size ≤ maxLen ∧ v = .int .i64 b.chk) ∨
  (f = 22 ∧ ∃ a b : Bod.Bd, xs = [⟨valBd a, 0, []⟩, ⟨valBd b, 0, []⟩] ∧ a.name.size ≤ maxLen ∧ b.name.size ≤ maxLen ∧ v = .tuple #[.bool (weakR a b).1, .int .i64 (weakR a b).2]) ∨
  (f = 23 ∧ ∃ (b : Bod.Bd) (z : Lim), xs = [⟨valBd b, 0, []⟩, ⟨valCp (capOf z), 0, []⟩] ∧ capOk z.kind z.limb z.n ∧ v = .bool (keepV b (capOf z)))
def shpG : FuncId → Option SX.Sh := fun f => if f = 14 then some .one else if f = 16 then some .one else if f = 12 then some (.tp [.sl 9, .one]) else if f = 17 then some (.tp [.sl 9, .one]) else if f = 19 then some (.tp [.ag 17, .one]) else if f = 10 then some .one else if f = 21 then some .one else if f = 22 then some (.tp [.one, .one]) else if f = 23 then some .one else none
noncomputable def cxG (K A : Value → Nat → List Value → Prop) : SX.Cx := { P := Try.prog, R := fun _ => RG, shp := shpG, K := K, A := A, trm := true }
theorem okG (K A : Value → Nat → List Value → Prop) : (cxG K A).Ok := by
  refine SX.Cx.ok_of (fun _ => rfl) ?_
  intro K f xs v W hR hrd hKf
  rcases hR with ⟨rfl, u, ls, rfl, hl, hf, rfl⟩ | ⟨rfl, u, u2, ls, ms, rfl, hl, hl2, rfl⟩ | ⟨rfl, u, ls, x, rfl, hl, hf, hx, rfl⟩ | ⟨rfl, u, ls, p, d, t, rfl, hl, hf, rfl⟩ | ⟨rfl, b, u, ls, p, d, t, rfl, hs, hl, hf, rfl⟩ | ⟨rfl, rfl, rfl⟩ | ⟨rfl, b, rfl, hs, rfl⟩ | ⟨rfl, a, b, rfl, ha, hb, rfl⟩ | ⟨rfl, b, z, rfl, hz, rfl⟩
  · obtain ⟨A, n, c, rfl, h2, h3, h4⟩ := lms_arg (hrd ⟨u, 9, lmL ls⟩ (by simp))
    exact (lCheck_any ls A n c W h2 (by omega) h3 hf).mono fun e w' h => SX.plainOk rfl h
  · obtain ⟨A, n, c, rfl, h2, h3, h4⟩ := lms_arg (hrd ⟨u, 9, lmL ls⟩ (by simp))
    obtain ⟨A', n', c', rfl, h2', h3', h4'⟩ := lms_arg (hrd ⟨u2, 9, lmL ms⟩ (by simp))
    exact (same_any ls ms A A' n c n' c' W h2 (by omega) h3 h2' (by omega) h3').mono fun e w' h => SX.plainOk rfl h
  · refine Calls.mono ?_ fun e w' h => SX.SlRet.ok0 rfl h
    obtain ⟨A, n, c, rfl, h2, h3, h4⟩ := lms_arg (hrd ⟨u, 9, lmL ls⟩ (by simp))
    exact lAdd_any ls A n c x W h2 (by omega) h3 hf hx
  · refine Calls.mono ?_ fun e w' h => SX.SlRet.ok0 rfl h
    obtain ⟨A, n, c, rfl, h2, h3, h4⟩ := lms_arg (hrd ⟨u, 9, lmL ls⟩ (by simp))
    exact lStand_any ls A n c p d t W h2 (by omega) h3 hf
  · obtain ⟨A, n, c, rfl, h2, h3, h4⟩ := lms_arg (hrd ⟨u, 9, lmL ls⟩ (by simp))
    exact (inForce_any b ls A n c p d t W hs h2 (by omega) h3 hf).mono fun e w' h => SX.plainOk rfl h
  · exact (lSane_any W).mono fun e w' h => SX.plainOk rfl h
  · exact (bCheck_any b W hs).mono fun e w' h => SX.plainOk rfl h
  · exact (weaker_any a b W ha hb).mono fun e w' h => SX.plainOk rfl h
  · exact (keepsW_any b z.kind z.limb z.n W hz (cap_ok hz)).mono fun e w' h => SX.plainOk rfl h
end Go.Proofs.Ytmkigejhgpoleaa
