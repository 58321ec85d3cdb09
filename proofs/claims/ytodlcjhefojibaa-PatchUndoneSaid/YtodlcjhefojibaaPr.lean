/-
  Plain facts on lists of signs and patches: what a patch does is told by what it makes of the sign that it is about.
-/
import Derived.Test.YtodlcjhefojibaaPp
namespace Go.Proofs.Ytodlcjhefojibaa
set_option linter.unusedSimpArgs false
set_option linter.unusedVariables false
open Go Go.RowKit
theorem id_inj {ss : List Sg} (hs : okL ss) {x y : Sg} (hx : x ∈ ss) (hy : y ∈ ss) (h : x.id = y.id) : x = y := by
  obtain ⟨i, hi⟩ := List.mem_iff_getElem?.1 hx
  obtain ⟨j, hj⟩ := List.mem_iff_getElem?.1 hy
  rcases Nat.lt_trichotomy i j with h1 | rfl | h1
  · have := srt_lt hs h1 hi hj; omega
  · rw [hi] at hj; exact Option.some.inj hj
  · have := srt_lt hs h1 hj hi; omega
theorem find_mem {ss : List Sg} (hs : okL ss) {id : Int} {z : Sg} : findO ss id = some z ↔ z ∈ ss ∧ z.id = id := by
  constructor
  · intro h
    exact ⟨List.mem_of_find?_eq_some h, by simpa using List.find?_some h⟩
  · rintro ⟨h1, h2⟩
    cases hf : findO ss id with
    | none =>
      have := List.find?_eq_none.1 hf z h1
      simp [h2] at this
    | some w =>
      have h3 := List.mem_of_find?_eq_some hf
      have h4 : w.id = id := by simpa using List.find?_some hf
      rw [id_inj hs h3 h1 (by omega)]
theorem find_none {ss : List Sg} {id : Int} : findO ss id = none ↔ ∀ z ∈ ss, z.id ≠ id := by
  unfold findO
  rw [List.find?_eq_none]
  simp
theorem okL_tail {x : Sg} {l : List Sg} (h : okL (x :: l)) : okL l ∧ ∀ y ∈ l, x.id < y.id :=
  ⟨⟨fun s hs => h.1 s (List.mem_cons_of_mem _ hs), (List.pairwise_cons.1 h.2).2⟩, (List.pairwise_cons.1 h.2).1⟩
theorem sgs_ext : ∀ {a b : List Sg}, okL a → okL b → (∀ z, z ∈ a ↔ z ∈ b) → a = b
  | [], [], _, _, _ => rfl
  | [], y :: b, _, _, h => absurd ((h y).2 (List.mem_cons_self ..)) (by simp)
  | x :: a, [], _, _, h => absurd ((h x).1 (List.mem_cons_self ..)) (by simp)
  | x :: a, y :: b, ha, hb, h => by
    obtain ⟨ha1, ha2⟩ := okL_tail ha
    obtain ⟨hb1, hb2⟩ := okL_tail hb
    have hxy : x = y := by
      rcases List.mem_cons.1 ((h x).1 (List.mem_cons_self ..)) with e | e
      · exact e
      · rcases List.mem_cons.1 ((h y).2 (List.mem_cons_self ..)) with e' | e'
        · exact e'.symm
        · have := hb2 x e
          have := ha2 y e'
          omega
    subst hxy
    rw [sgs_ext ha1 hb1 fun z => ?_]
    constructor
    · intro hz
      rcases List.mem_cons.1 ((h z).1 (List.mem_cons_of_mem _ hz)) with e | e
      · subst e; have := ha2 z hz; omega
      · exact e
    · intro hz
      rcases List.mem_cons.1 ((h z).2 (List.mem_cons_of_mem _ hz)) with e | e
      · subst e; have := hb2 z hz; omega
      · exact e
theorem find_ext {a b : List Sg} (ha : okL a) (hb : okL b) (h : ∀ id, findO a id = findO b id) : a = b :=
  sgs_ext ha hb fun z => by
    have h1 := find_mem ha (id := z.id) (z := z)
    have h2 := find_mem hb (id := z.id) (z := z)
    rw [h z.id] at h1
    constructor
    · intro hz; exact (h2.1 (h1.2 ⟨hz, rfl⟩)).1
    · intro hz; exact (h1.1 (h2.2 ⟨hz, rfl⟩)).1
theorem there_find {ss : List Sg} (hs : okL ss) (id : Int) : there ss id = (findO ss id).isSome := by
  cases ht : there ss id with
  | true =>
    obtain ⟨z, hz⟩ := there_lt ht
    rw [there_at rfl hz] at ht
    have : findO ss id = some z := (find_mem hs).2 ⟨List.mem_of_getElem? hz, by simpa using ht⟩
    rw [this]; rfl
  | false =>
    cases hf : findO ss id with
    | none => rfl
    | some z =>
      exfalso
      obtain ⟨h1, h2⟩ := (find_mem hs).1 hf
      obtain ⟨k, hk⟩ := List.mem_iff_getElem?.1 h1
      have hle : idx ss id ≤ k := by
        rcases Nat.lt_or_ge k (idx ss id) with h | h
        · have := idx_lo h hk; omega
        · exact h
      obtain ⟨y, hy⟩ : ∃ y, ss[idx ss id]? = some y := ⟨_, List.getElem?_eq_getElem (by have := (List.getElem?_eq_some_iff.1 hk).1; omega)⟩
      have h3 := idx_hi hs (Nat.le_refl _) hy
      rw [there_at rfl hy] at ht
      rcases Nat.lt_or_eq_of_le hle with h | h
      · have := srt_lt hs h hy hk
        omega
      · rw [h, hk] at hy
        cases hy
        simp [h2] at ht
theorem find_idx {ss : List Sg} (hs : okL ss) {id : Int} (h : there ss id = true) : findO ss id = some (ss.getD (idx ss id) default) ∧ idx ss id < ss.length ∧ (ss.getD (idx ss id) default) ∈ ss ∧ (ss.getD (idx ss id) default).id = id := by
  obtain ⟨z, hz⟩ := there_lt h
  rw [there_at rfl hz] at h
  have hg : ss.getD (idx ss id) default = z := by simp [List.getD_eq_getElem?_getD, hz]
  rw [hg]
  have hm := List.mem_of_getElem? hz
  have he : z.id = id := by simpa using h
  exact ⟨(find_mem hs).2 ⟨hm, he⟩, (List.getElem?_eq_some_iff.1 hz).1, hm, he⟩
/-- what a patch makes of the sign that it is about -/
def updP (p : Pt) (o : Option Sg) : Option Sg := if p.kind = 1 then o.map fun z => setF z p.field p.new else if p.kind = 2 then some p.new else none
def preP (p : Pt) (o : Option Sg) : Prop := if p.kind = 1 then o.isSome = true else if p.kind = 2 then o = none else True
theorem apply_len (ss : List Sg) (p : Pt) : (applyS ss p).1.length ≤ ss.length + 1 := by
  have := idx_le ss p.sign
  unfold applyS
  repeat' split
  all_goals simp
  all_goals omega
theorem apply_pre {ss : List Sg} {p : Pt} (hs : okL ss) : (applyS ss p).2 = 0 ↔ preP p (findO ss p.sign) ∧ (p.kind = 2 → ss.length < 4096) := by
  have ht := there_find hs p.sign
  unfold applyS preP
  by_cases h1 : p.kind = 1
  · rw [if_pos h1, if_pos h1, ht]
    split
    · rename_i h; simp [h]; omega
    · rename_i h; simp [h]
  · rw [if_neg h1, if_neg h1]
    by_cases h2 : p.kind = 2
    · rw [if_pos h2, if_pos h2, ht]
      cases hf : findO ss p.sign with
      | none =>
        simp only [Option.isSome_none, Bool.false_eq_true, if_false, true_and]
        split
        · simp [h2]; omega
        · simp [h2]; omega
      | some z => simp
    · rw [if_neg h2, if_neg h2]
      split <;> simp [h2]
theorem apply_find {ss : List Sg} {p : Pt} (hs : okL ss) (hl : ss.length ≤ 4096) (hp : okP p) (h0 : (applyS ss p).2 = 0) (id : Int) : findO (applyS ss p).1 id = if id = p.sign then updP p (findO ss p.sign) else findO ss id := by
  have hok := (apply_ok hs hl hp h0).1
  have ht := there_find hs p.sign
  have key : ∀ z, z ∈ (applyS ss p).1 ↔ (if z.id = p.sign then updP p (findO ss p.sign) = some z else z ∈ ss) := by
    intro z
    obtain ⟨_, _, _, hk⟩ := hp
    rcases hk with ⟨k1, _⟩ | ⟨k1, k2, k3, k4⟩ | ⟨k1, k2, k3⟩
    · unfold applyS at h0 ⊢
      rw [if_pos k1] at h0 ⊢
      split at h0
      · rename_i hth
        rw [if_pos hth]
        obtain ⟨g1, g2, g3, g4⟩ := find_idx hs hth
        have hu : updP p (findO ss p.sign) = some (setF (ss.getD (idx ss p.sign) default) p.field p.new) := by rw [g1]; unfold updP; rw [if_pos k1]; rfl
        rw [hu]
        have hid : (setF (ss.getD (idx ss p.sign) default) p.field p.new).id = p.sign := by rw [setF_id, g4]
        constructor
        · intro hz
          rcases List.mem_or_eq_of_mem_set hz with h | h
          · split
            · rename_i he
              obtain ⟨j, hj⟩ := List.mem_iff_getElem?.1 hz
              rw [List.getElem?_set] at hj
              split at hj
              · first
                  | exact hj
                  | (split at hj
                     · exact hj
                     · cases hj)
              · rename_i hne
                exfalso
                have hz2 := id_inj hs (List.mem_of_getElem? hj) g3 (by rw [he, g4])
                have hgi : ss[idx ss p.sign]? = some (ss.getD (idx ss p.sign) default) := by simp [List.getD_eq_getElem?_getD, g2]
                rw [← hz2] at hgi
                rcases Nat.lt_trichotomy j (idx ss p.sign) with h3 | h3 | h3
                · have := srt_lt hs h3 hj hgi; omega
                · exact hne h3.symm
                · have := srt_lt hs h3 hgi hj; omega
            · exact h
          · subst h; rw [if_pos hid]
        · intro hz
          split at hz
          · cases hz
            exact List.mem_iff_getElem?.2 ⟨idx ss p.sign, by rw [List.getElem?_set, if_pos rfl, if_pos g2]⟩
          · rename_i hne
            obtain ⟨j, hj⟩ := List.mem_iff_getElem?.1 hz
            refine List.mem_iff_getElem?.2 ⟨j, ?_⟩
            rw [List.getElem?_set, if_neg ?_]
            · exact hj
            · rintro rfl
              have : ss.getD (idx ss p.sign) default = z := by simp [List.getD_eq_getElem?_getD, hj]
              rw [this] at g4
              exact hne g4
      · simp at h0
    · have e1 : ¬ p.kind = 1 := by omega
      have hpre := (apply_pre (p := p) hs).1 h0
      have hn : findO ss p.sign = none := by have := hpre.1; unfold preP at this; rw [if_neg e1, if_pos k1] at this; exact this
      have hu : updP p (findO ss p.sign) = some p.new := by unfold updP; rw [if_neg e1, if_pos k1]
      rw [hu]
      unfold applyS at h0 ⊢
      rw [if_neg e1, if_pos k1] at h0 ⊢
      split at h0
      · simp at h0
      · rename_i hth
        rw [if_neg hth]
        split at h0
        · simp at h0
        · rename_i h4
          rw [if_neg h4]
          have hmem : z ∈ ss.take (idx ss p.sign) ++ p.new :: ss.drop (idx ss p.sign) ↔ z = p.new ∨ z ∈ ss := by
            rw [List.mem_append, List.mem_cons]
            constructor
            · rintro (h | h | h)
              · exact .inr (List.mem_of_mem_take h)
              · exact .inl h
              · exact .inr (List.mem_of_mem_drop h)
            · rintro (h | h)
              · exact .inr (.inl h)
              · rw [← List.take_append_drop (idx ss p.sign) ss] at h
                rcases List.mem_append.1 h with h | h
                · exact .inl h
                · exact .inr (.inr h)
          rw [hmem]
          have hno := find_none.1 hn
          constructor
          · rintro (rfl | h)
            · rw [if_pos k3]
            · rw [if_neg (hno z h)]; exact h
          · intro h
            split at h
            · exact .inl (Option.some.inj h).symm
            · exact .inr h
    · have e1 : ¬ p.kind = 1 := by omega
      have e2 : ¬ p.kind = 2 := by omega
      have hu : updP p (findO ss p.sign) = none := by unfold updP; rw [if_neg e1, if_neg e2]
      rw [hu]
      unfold applyS
      rw [if_neg e1, if_neg e2]
      split
      · rename_i hth
        obtain ⟨g1, g2, g3, g4⟩ := find_idx hs hth
        have hgi : ss[idx ss p.sign]? = some (ss.getD (idx ss p.sign) default) := by simp [List.getD_eq_getElem?_getD, g2]
        have hsp : ss = ss.take (idx ss p.sign) ++ ss.getD (idx ss p.sign) default :: ss.drop (idx ss p.sign + 1) := by
          conv => lhs; rw [← List.take_append_drop (idx ss p.sign) ss, List.drop_eq_getElem_cons g2]
          simp [List.getD_eq_getElem?_getD, g2]
        constructor
        · intro hz
          have hzm : z ∈ ss := by
            rcases List.mem_append.1 hz with h | h
            · exact List.mem_of_mem_take h
            · exact List.mem_of_mem_drop h
          rw [if_neg ?_]
          · exact hzm
          · intro he
            have hz2 := id_inj hs hzm g3 (by rw [he, g4])
            rcases List.mem_append.1 hz with h | h
            · obtain ⟨k, hk⟩ := List.mem_iff_getElem?.1 h
              rw [List.getElem?_take] at hk
              split at hk
              · rename_i hlt; have := idx_lo hlt hk; omega
              · cases hk
            · obtain ⟨k, hk⟩ := List.mem_iff_getElem?.1 h
              rw [List.getElem?_drop] at hk
              have := srt_lt hs (show idx ss p.sign < idx ss p.sign + 1 + k by omega) hgi hk
              omega
        · intro hz
          split at hz
          · cases hz
          · rename_i hne
            rw [hsp] at hz
            rcases List.mem_append.1 hz with h | h
            · exact List.mem_append.2 (.inl h)
            · rcases List.mem_cons.1 h with h | h
              · exact absurd (by rw [h, g4]) hne
              · exact List.mem_append.2 (.inr h)
      · rename_i hth
        rw [ht] at hth
        have hno := find_none.1 (by simpa using hth : findO ss p.sign = none)
        constructor
        · intro hz; rw [if_neg (hno z hz)]; exact hz
        · intro hz
          split at hz
          · cases hz
          · exact hz
  by_cases hid : id = p.sign
  · subst hid
    rw [if_pos rfl]
    cases hf : findO (applyS ss p).1 p.sign with
    | some z =>
      obtain ⟨h1, h2⟩ := (find_mem hok).1 hf
      have := (key z).1 h1
      rw [if_pos h2] at this
      exact this.symm
    | none =>
      cases hu : updP p (findO ss p.sign) with
      | none => rfl
      | some z =>
        exfalso
        have hzid : z.id = p.sign := by
          obtain ⟨_, _, _, hk⟩ := hp
          unfold updP at hu
          rcases hk with ⟨k1, _⟩ | ⟨k1, k2, k3, k4⟩ | ⟨k1, k2, k3⟩
          · rw [if_pos k1] at hu
            obtain ⟨y, hy, rfl⟩ := Option.map_eq_some_iff.1 hu
            rw [setF_id]
            exact ((find_mem hs).1 hy).2
          · rw [if_neg (by omega), if_pos k1] at hu
            cases hu
            exact k3
          · rw [if_neg (by omega), if_neg (by omega)] at hu
            cases hu
        have := (key z).2 (by rw [if_pos hzid]; exact hu)
        exact find_none.1 hf z this hzid
  · rw [if_neg hid]
    cases hf : findO (applyS ss p).1 id with
    | some z =>
      obtain ⟨h1, h2⟩ := (find_mem hok).1 hf
      have := (key z).1 h1
      rw [if_neg (by rw [h2]; exact hid)] at this
      exact ((find_mem hs).2 ⟨this, h2⟩).symm
    | none =>
      symm
      rw [find_none]
      intro z hz he
      have := (key z).2 (by rw [if_neg (by rw [he]; exact hid)]; exact hz)
      exact find_none.1 hf z this he
theorem setF_cases (f : Int) : (f = 1 ∨ f = 2 ∨ f = 3 ∨ f = 4 ∨ f = 5 ∨ f = 6 ∨ f = 7 ∨ f = 8 ∨ f = 9) ∨ ∀ x y, setF x f y = x := by
  by_cases h : f = 1 ∨ f = 2 ∨ f = 3 ∨ f = 4 ∨ f = 5 ∨ f = 6 ∨ f = 7 ∨ f = 8 ∨ f = 9
  · exact .inl h
  · refine .inr fun x y => ?_
    unfold setF
    rw [if_neg (by omega), if_neg (by omega), if_neg (by omega), if_neg (by omega), if_neg (by omega), if_neg (by omega), if_neg (by omega), if_neg (by omega), if_neg (by omega)]
theorem setF_comm {x y z : Sg} {f g : Int} (h : f ≠ g) : setF (setF x f y) g z = setF (setF x g z) f y := by
  rcases setF_cases f with hf | hf
  · rcases setF_cases g with hg | hg
    · rcases hf with rfl | rfl | rfl | rfl | rfl | rfl | rfl | rfl | rfl <;> rcases hg with rfl | rfl | rfl | rfl | rfl | rfl | rfl | rfl | rfl <;> first | exact absurd rfl h | simp [setF]
    · rw [hg, hg]
  · rw [hf, hf]
theorem setF_setF {x y z : Sg} {f : Int} : setF (setF x f y) f z = setF x f z := by
  rcases setF_cases f with hf | hf
  · rcases hf with rfl | rfl | rfl | rfl | rfl | rfl | rfl | rfl | rfl <;> simp [setF]
  · rw [hf, hf, hf]
theorem setF_of {x y z : Sg} {f : Int} : setF x f (setF y f z) = setF x f z := by
  rcases setF_cases f with hf | hf
  · rcases hf with rfl | rfl | rfl | rfl | rfl | rfl | rfl | rfl | rfl <;> simp [setF]
  · rw [hf, hf]
theorem setF_self {x y : Sg} {f : Int} : setF (setF x f y) f x = x := by
  rcases setF_cases f with hf | hf
  · rcases hf with rfl | rfl | rfl | rfl | rfl | rfl | rfl | rfl | rfl <;> simp [setF]
  · rw [hf, hf]
theorem setF_zero {y : Sg} {f : Int} (h1 : 1 ≤ f) (h9 : f ≤ 9) (h : setF y f zeroSg = zeroSg) : setF zeroSg f y = y := by
  have hf : f = 1 ∨ f = 2 ∨ f = 3 ∨ f = 4 ∨ f = 5 ∨ f = 6 ∨ f = 7 ∨ f = 8 ∨ f = 9 := by omega
  obtain ⟨a1, a2, a3, a4, a5, a6, a7, a8, a9, a10, a11, a12, a13, a14⟩ := y
  rcases hf with rfl | rfl | rfl | rfl | rfl | rfl | rfl | rfl | rfl <;> simp [setF, zeroSg] at h ⊢ <;> simp_all
theorem plain_set {z : Sg} {f : Int} (h1 : 1 ≤ f) (h9 : f ≤ 9) (hz : z.ok) : (setF plainP f z).ok := by
  have hf : f = 1 ∨ f = 2 ∨ f = 3 ∨ f = 4 ∨ f = 5 ∨ f = 6 ∨ f = 7 ∨ f = 8 ∨ f = 9 := by omega
  have hpl : okS 0 1 1 2 := by decide
  rw [Sg.ok_iff] at hz ⊢
  rcases hf with rfl | rfl | rfl | rfl | rfl | rfl | rfl | rfl | rfl <;> simp [setF, plainP] <;> simp_all
theorem chkS_of {ss : List Sg} (h1 : okL ss) (h2 : ss.length ≤ 4096) : chkS ss = 0 := by unfold chkS; rw [if_neg (by omega), if_pos h1]
theorem chkP_of {p : Pt} (h1 : okP p) (h2 : p.needs.length ≤ 32) : chkP p = 0 := by unfold chkP; rw [if_neg (by omega), if_pos h1]
theorem run_1 {ss : List Sg} {p : Pt} (h : (runS ss [p]).2 = 0) : runS ss [p] = applyS ss p := run1 (run_ok h).1 (run_ok h).2.1
theorem runS2 {ss : List Sg} {p q : Pt} (h1 : chkS ss = 0) (h2 : chkP p = 0) (h3 : (applyS ss p).2 = 0) (h4 : chkP q = 0) : runS ss [p, q] = applyS (applyS ss p).1 q := by
  rw [runS, if_pos h1, if_neg (by simp), runL, if_pos h2, if_pos h3, runL, if_pos h4]
  split
  · rename_i h; rw [runL, ← h]
  · rename_i h; rw [← apply_no h]
theorem runL_err : ∀ (l : List Pt) (ss : List Sg), (runL ss l).2 ≠ 0 → (runL ss l).1 = []
  | [], ss, h => by simp [runL] at h
  | p :: l, ss, h => by
    unfold runL at h ⊢
    split at h
    · rename_i hp
      rw [if_pos hp]
      split at h
      · rename_i h0; rw [if_pos h0]; exact runL_err l _ h
      · rename_i h0; rw [if_neg h0]
    · rename_i hp; rw [if_neg hp]
theorem runS_err {ss : List Sg} {l : List Pt} (h : (runS ss l).2 ≠ 0) : (runS ss l).1 = [] := by
  unfold runS at h ⊢
  split at h
  · rename_i hs
    rw [if_pos hs]
    split at h
    · rename_i hl; rw [if_pos hl]
    · rename_i hl; rw [if_neg hl]; exact runL_err l ss h
  · rename_i hs; rw [if_neg hs]
/-- patches that are about other signs, or about other fields -/
def apartP (p q : Pt) : Prop := p.sign ≠ q.sign ∨ (p.kind = 1 ∧ q.kind = 1 ∧ p.field ≠ q.field)
theorem two_steps {ss : List Sg} {p q : Pt} (hs : okL ss) (hl : ss.length ≤ 1000) (hp : okP p) (hq : okP q) (h1 : (applyS ss p).2 = 0) (h2 : (applyS ss q).2 = 0) (ha : apartP p q) :
    (applyS (applyS ss p).1 q).2 = 0 ∧ okL (applyS (applyS ss p).1 q).1 ∧ ∀ id, findO (applyS (applyS ss p).1 q).1 id = if id = q.sign then updP q (if q.sign = p.sign then updP p (findO ss p.sign) else findO ss q.sign) else if id = p.sign then updP p (findO ss p.sign) else findO ss id := by
  obtain ⟨g1, g2⟩ := apply_ok hs (by omega) hp h1
  have gl := apply_len ss p
  have hf := apply_find hs (by omega) hp h1
  have hpre := (apply_pre (p := q) hs).1 h2
  have h3 : (applyS (applyS ss p).1 q).2 = 0 := by
    rw [apply_pre g1, hf q.sign]
    refine ⟨?_, fun _ => by omega⟩
    split
    · rename_i he
      rcases ha with ha | ⟨k1, k2, k3⟩
      · exact absurd he.symm ha
      · have := hpre.1
        unfold preP updP at *
        rw [if_pos k2] at this ⊢
        rw [if_pos k1, Option.isSome_map]
        rw [← he]; exact this
    · exact hpre.1
  refine ⟨h3, (apply_ok g1 g2 hq h3).1, fun id => ?_⟩
  rw [apply_find g1 g2 hq h3 id, hf q.sign, hf id]
theorem two_same {ss : List Sg} {p q : Pt} (hs : okL ss) (hl : ss.length ≤ 1000) (hp : okP p) (hq : okP q) (h1 : (applyS ss p).2 = 0) (h2 : (applyS ss q).2 = 0) (ha : apartP p q) :
    (applyS (applyS ss p).1 q).2 = 0 ∧ (applyS (applyS ss q).1 p).2 = 0 ∧ (applyS (applyS ss p).1 q).1 = (applyS (applyS ss q).1 p).1 := by
  have ha' : apartP q p := by
    rcases ha with h | ⟨a, b, c⟩
    · exact .inl (Ne.symm h)
    · exact .inr ⟨b, a, Ne.symm c⟩
  obtain ⟨a1, a2, a3⟩ := two_steps hs hl hp hq h1 h2 ha
  obtain ⟨b1, b2, b3⟩ := two_steps hs hl hq hp h2 h1 ha'
  refine ⟨a1, b1, find_ext a2 b2 fun id => ?_⟩
  rw [a3, b3]
  by_cases he : p.sign = q.sign
  · rcases ha with h | ⟨k1, k2, k3⟩
    · exact absurd he h
    · rw [he]
      simp only [if_true]
      split
      · simp only [updP, k1, k2, if_true, Option.map_map]
        congr 1
        funext z
        exact setF_comm k3
      · rfl
  · have he' : ¬ q.sign = p.sign := fun h => he h.symm
    rw [if_neg he, if_neg he']
    by_cases e1 : id = q.sign
    · rw [if_pos e1, if_neg (by rw [e1]; exact he'), if_pos e1]
    · rw [if_neg e1, if_neg e1]
theorem indep {ss : List Sg} {p q : Pt} (hl : ss.length ≤ 1000) (h1 : (runS ss [p]).2 = 0) (h2 : (runS ss [q]).2 = 0) (h3 : ovV p q = false) :
    ovE p q = 0 ∧ comS ss p q = (true, 0) ∧ (runS ss [p, q]).2 = 0 ∧ (runS ss [q, p]).2 = 0 ∧ (runS ss [p, q]).1 = (runS ss [q, p]).1 := by
  obtain ⟨c1, c2, c3⟩ := run_ok h1
  obtain ⟨_, d2, d3⟩ := run_ok h2
  obtain ⟨hs, _⟩ := chkS_ok c1
  have hov : ovE p q = 0 := by unfold ovE; rw [if_pos c2, d2]
  have ha : apartP p q := by
    unfold ovV at h3
    simp only [decide_eq_false_iff_not, not_and, not_or, Decidable.not_not] at h3
    by_cases he : p.sign = q.sign
    · have := h3 c2 d2 he
      exact .inr ⟨this.1, this.2.1, this.2.2⟩
    · exact .inl he
  obtain ⟨a1, a2, a3⟩ := two_same hs hl (chkP_ok c2) (chkP_ok d2) c3 d3 ha
  have r1 := runS2 c1 c2 c3 d2
  have r2 := runS2 c1 d2 d3 c2
  refine ⟨hov, ?_, by rw [r1]; exact a1, by rw [r2]; exact a2, by rw [r1, r2]; exact a3⟩
  unfold comS
  rw [if_pos c1, if_pos hov, r1, r2]
  simp [a1, a2, a3]
theorem alone {ss : List Sg} {p : Pt} (hl : ss.length ≤ 1000) (h : (runS ss [p]).2 = 0) :
    chkS (runS ss [p]).1 = 0 ∧ (∀ o, o ≠ p.sign → isS ss o = isS (runS ss [p]).1 o ∧ findS ss o = findS (runS ss [p]).1 o) ∧
    (p.kind = 2 → isS ss p.sign = false ∧ isS (runS ss [p]).1 p.sign = true ∧ findS (runS ss [p]).1 p.sign = p.new ∧ (runS ss [p]).1.length = ss.length + 1) ∧
    (p.kind ≠ 2 → (runS (runS ss [p]).1 [p]).2 = 0 ∧ (runS (runS ss [p]).1 [p]).1 = (runS ss [p]).1) ∧
    (p.kind = 3 → isS (runS ss [p]).1 p.sign = false) ∧
    (p.kind ≠ 2 → p.kind ≠ 3 → isS ss p.sign = true ∧ isS (runS ss [p]).1 p.sign = true ∧ findS (runS ss [p]).1 p.sign = setF (findS ss p.sign) p.field p.new ∧ (runS ss [p]).1.length = ss.length) := by
  obtain ⟨c1, c2, c3⟩ := run_ok h
  obtain ⟨hs, hl4⟩ := chkS_ok c1
  have hp := chkP_ok c2
  have hr := run_1 h
  rw [hr]
  obtain ⟨g1, g2⟩ := apply_ok hs hl4 hp c3
  have gl := apply_len ss p
  have hf := apply_find hs hl4 hp c3
  have hpre := (apply_pre (p := p) hs).1 c3
  have hcx := chkS_of g1 g2
  have hfs : findO (applyS ss p).1 p.sign = updP p (findO ss p.sign) := by rw [hf, if_pos rfl]
  refine ⟨hcx, fun o ho => ?_, fun k => ?_, fun k => ?_, fun k => ?_, fun k k3 => ?_⟩
  · have := hf o
    rw [if_neg ho] at this
    unfold isS findS
    rw [this]
    exact ⟨rfl, rfl⟩
  · have e1 : ¬ p.kind = 1 := by omega
    have h1 := hpre.1
    unfold preP at h1
    rw [if_neg e1, if_pos k] at h1
    unfold updP at hfs
    rw [if_neg e1, if_pos k] at hfs
    unfold isS findS
    rw [h1, hfs]
    refine ⟨rfl, rfl, rfl, ?_⟩
    have hi := idx_le ss p.sign
    unfold applyS at c3 ⊢
    rw [if_neg e1, if_pos k] at c3 ⊢
    split at c3
    · simp at c3
    · rename_i ht
      rw [if_neg ht]
      split at c3
      · simp at c3
      · rename_i h4
        rw [if_neg h4]
        simp
        omega
  · have hkk := hp.kinds
    have hpre2 : (applyS (applyS ss p).1 p).2 = 0 := by
      rw [apply_pre g1, hfs]
      refine ⟨?_, fun h => absurd h k⟩
      have h1 := hpre.1
      unfold preP updP at *
      rcases hkk with e | e | e
      · rw [if_pos e] at h1 ⊢
        rw [if_pos e, Option.isSome_map]; exact h1
      · exact absurd e k
      · rw [if_neg (by omega), if_neg (by omega)]; trivial
    rw [run1 hcx c2]
    refine ⟨hpre2, find_ext (apply_ok g1 g2 hp hpre2).1 g1 fun id => ?_⟩
    rw [apply_find g1 g2 hp hpre2, hfs, hf id]
    split
    · unfold updP
      rcases hkk with e | e | e
      · rw [if_pos e, if_pos e, Option.map_map]
        congr 1
        funext z
        exact setF_setF
      · exact absurd e k
      · rw [if_neg (by omega), if_neg (by omega)]
        simp [e]
    · rfl
  · unfold isS
    rw [hfs]
    unfold updP
    rw [if_neg (by omega), if_neg (by omega)]
    rfl
  · have e1 : p.kind = 1 := by have := hp.kinds; omega
    have h1 := hpre.1
    unfold preP at h1
    rw [if_pos e1] at h1
    unfold updP at hfs
    rw [if_pos e1] at hfs
    unfold isS findS
    rw [hfs]
    obtain ⟨z, hz⟩ := Option.isSome_iff_exists.1 h1
    rw [hz]
    refine ⟨rfl, rfl, rfl, ?_⟩
    unfold applyS at c3 ⊢
    rw [if_pos e1] at c3 ⊢
    split at c3
    · rename_i ht; rw [if_pos ht]; simp
    · simp at c3
theorem undone {ss : List Sg} {p : Pt} {id : Int} (hl : ss.length ≤ 1000) (h : (invS ss p id).2 = 0) :
    (runS ss [p]).2 = 0 ∧ (runS ss [p, (invS ss p id).1]).2 = 0 ∧ chkP (invS ss p id).1 = 0 ∧ (runS ss [p, (invS ss p id).1]).1 = ss ∧ (invS ss p id).1.id = id ∧ (invS ss p id).1.needs = [p.id] ∧ id ≤ 1048576 ∧ 0 ≤ id ∧
    (id ≠ 1048576 → (invS (runS ss [p]).1 (invS ss p id).1 (id + 1)).2 = 0 ∧ (⟨p.id, (invS (runS ss [p]).1 (invS ss p id).1 (id + 1)).1.kind, (invS (runS ss [p]).1 (invS ss p id).1 (id + 1)).1.sign, (invS (runS ss [p]).1 (invS ss p id).1 (id + 1)).1.field, (invS (runS ss [p]).1 (invS ss p id).1 (id + 1)).1.new, p.needs⟩ : Pt) = p) := by
  have h0 : (runS ss [p]).2 = 0 ∧ ¬ (id ≤ p.id ∨ 1048576 < id ∨ (p.kind = 3 ∧ there ss p.sign = false)) := by
    unfold invS at h
    split at h
    · rename_i h1
      refine ⟨h1, ?_⟩
      split at h
      · simp at h
      · assumption
    · rename_i h1; exact absurd h h1
  obtain ⟨h1, h2⟩ := h0
  have hinv : invS ss p id = (invP ss p id, 0) := by unfold invS; rw [if_pos h1, if_neg h2]
  obtain ⟨c1, c2, c3⟩ := run_ok h1
  obtain ⟨hs, hl4⟩ := chkS_ok c1
  have hp := chkP_ok c2
  have hp' := hp
  have hr := run_1 h1
  obtain ⟨g1, g2⟩ := apply_ok hs hl4 hp c3
  have gl := apply_len ss p
  have hf := apply_find hs hl4 hp c3
  have hpre := (apply_pre (p := p) hs).1 c3
  have hcx := chkS_of g1 g2
  have hfs : findO (applyS ss p).1 p.sign = updP p (findO ss p.sign) := by rw [hf, if_pos rfl]
  rw [hinv]
  obtain ⟨⟨i1, i2⟩, ⟨s1, s2⟩, hnd, hk⟩ := hp'
  have hid : p.id < id ∧ id ≤ 1048576 := by omega
  have hneed : (invP ss p id).needs = [p.id] := by unfold invP; repeat' split
                                                   all_goals rfl
  have hpid : (invP ss p id).id = id := by unfold invP; repeat' split
                                           all_goals rfl
  have hsg : (invP ss p id).sign = p.sign := by unfold invP; repeat' split
                                                all_goals rfl
  have hth : p.kind ≠ 2 → there ss p.sign = true := fun k => by
    rcases hp.kinds with e | e | e
    · exact apply_there c3 e
    · exact absurd e k
    · cases ht : there ss p.sign with
      | true => rfl
      | false => exact absurd (.inr (.inr ⟨e, ht⟩)) h2
  -- the inverse is valid
  have hokq : okP (invP ss p id) := by
    refine ⟨by rw [hpid]; omega, by rw [hsg]; exact ⟨s1, s2⟩, ⟨fun x hx => ?_, by rw [hneed]; simp⟩, ?_⟩
    · rw [hneed] at hx
      obtain rfl : x = p.id := by simpa using hx
      rw [hpid]; omega
    · unfold kindOk
      rcases hk with ⟨k1, k2, k3, k4, k5⟩ | ⟨k1, k2, k3, k4⟩ | ⟨k1, k2, k3⟩
      · obtain ⟨f1, f2, f3, f4⟩ := find_idx hs (hth (by omega))
        have e : invP ss p id = ⟨id, 1, p.sign, p.field, setF zeroSg p.field (ss.getD (idx ss p.sign) default), [p.id]⟩ := by unfold invP; rw [if_pos k1]
        rw [e]
        refine .inl ⟨rfl, k2, k3, setF_self, ?_⟩
        show (setF plainP p.field (setF zeroSg p.field _)).ok
        rw [setF_of]
        exact plain_set k2 k3 (hs.1 _ f3)
      · have e : invP ss p id = ⟨id, 3, p.sign, 0, zeroSg, [p.id]⟩ := by unfold invP; rw [if_neg (by omega), if_pos k1]
        rw [e]
        exact .inr (.inr ⟨rfl, rfl, rfl⟩)
      · obtain ⟨f1, f2, f3, f4⟩ := find_idx hs (hth (by omega))
        have e : invP ss p id = ⟨id, 2, p.sign, 0, ss.getD (idx ss p.sign) default, [p.id]⟩ := by unfold invP; rw [if_neg (by omega), if_neg (by omega)]
        rw [e]
        exact .inr (.inl ⟨rfl, rfl, f4, hs.1 _ f3⟩)
  have hcq : chkP (invP ss p id) = 0 := chkP_of hokq (by rw [hneed]; simp)
  -- what it makes of the sign
  have hback : preP (invP ss p id) (updP p (findO ss p.sign)) ∧ updP (invP ss p id) (updP p (findO ss p.sign)) = findO ss p.sign := by
    rcases hk with ⟨k1, k2, k3, k4, k5⟩ | ⟨k1, k2, k3, k4⟩ | ⟨k1, k2, k3⟩
    · obtain ⟨f1, f2, f3, f4⟩ := find_idx hs (hth (by omega))
      have e : invP ss p id = ⟨id, 1, p.sign, p.field, setF zeroSg p.field (ss.getD (idx ss p.sign) default), [p.id]⟩ := by unfold invP; rw [if_pos k1]
      rw [e, f1]
      unfold preP updP
      simp only [k1, if_true, Option.map_some, Option.isSome_some, true_and]
      congr 1
      rw [setF_of]
      exact setF_self
    · have e : invP ss p id = ⟨id, 3, p.sign, 0, zeroSg, [p.id]⟩ := by unfold invP; rw [if_neg (by omega), if_pos k1]
      have hn := hpre.1
      unfold preP at hn
      rw [if_neg (by omega), if_pos k1] at hn
      rw [e, hn]
      unfold preP updP
      simp [k1]
    · obtain ⟨f1, f2, f3, f4⟩ := find_idx hs (hth (by omega))
      have e : invP ss p id = ⟨id, 2, p.sign, 0, ss.getD (idx ss p.sign) default, [p.id]⟩ := by unfold invP; rw [if_neg (by omega), if_neg (by omega)]
      rw [e, f1]
      unfold preP updP
      simp [k1]
  have h3 : (applyS (applyS ss p).1 (invP ss p id)).2 = 0 := by
    rw [apply_pre g1, hsg, hfs]
    exact ⟨hback.1, fun _ => by omega⟩
  have hsame : (applyS (applyS ss p).1 (invP ss p id)).1 = ss := find_ext (apply_ok g1 g2 hokq h3).1 hs fun j => by
    rw [apply_find g1 g2 hokq h3, hsg, hfs, hback.2, hf j]
    split
    · rename_i e; rw [e]
    · rfl
  have hr2 := runS2 c1 c2 c3 hcq
  refine ⟨h1, by rw [hr2]; exact h3, hcq, by rw [hr2]; exact hsame, hpid, hneed, hid.2, by omega, fun hne => ?_⟩
  rw [hr]
  have hx1 : (runS (applyS ss p).1 [invP ss p id]).2 = 0 := by rw [run1 hcx hcq]; exact h3
  have htx := there_find g1 p.sign
  rw [hfs] at htx
  have h4 : ¬ (id + 1 ≤ (invP ss p id).id ∨ 1048576 < id + 1 ∨ ((invP ss p id).kind = 3 ∧ there (applyS ss p).1 (invP ss p id).sign = false)) := by
    rw [hpid, hsg, htx]
    rintro (h | h | ⟨h, h'⟩)
    · omega
    · omega
    · rcases hk with ⟨k1, _⟩ | ⟨k1, _⟩ | ⟨k1, _⟩
      · unfold invP at h; rw [if_pos k1] at h; simp at h
      · unfold updP at h'; rw [if_neg (by omega), if_pos k1] at h'; simp at h'
      · unfold invP at h; rw [if_neg (by omega), if_neg (by omega)] at h; simp at h
  have hinv2 : invS (applyS ss p).1 (invP ss p id) (id + 1) = (invP (applyS ss p).1 (invP ss p id) (id + 1), 0) := by unfold invS; rw [if_pos hx1, if_neg h4]
  rw [hinv2]
  refine ⟨rfl, ?_⟩
  have hpe : p = ⟨p.id, p.kind, p.sign, p.field, p.new, p.needs⟩ := rfl
  rcases hk with ⟨k1, k2, k3, k4, k5⟩ | ⟨k1, k2, k3, k4⟩ | ⟨k1, k2, k3⟩
  · obtain ⟨f1, f2, f3, f4⟩ := find_idx hs (hth (by omega))
    have e : invP ss p id = ⟨id, 1, p.sign, p.field, setF zeroSg p.field (ss.getD (idx ss p.sign) default), [p.id]⟩ := by unfold invP; rw [if_pos k1]
    have hthx : there (applyS ss p).1 p.sign = true := by rw [htx, f1]; unfold updP; rw [if_pos k1]; rfl
    obtain ⟨x1, x2, x3, x4⟩ := find_idx g1 hthx
    rw [hfs, f1] at x1
    unfold updP at x1
    rw [if_pos k1] at x1
    have hxv := Option.some.inj x1
    have hget : ∀ q : Pt, q = invP ss p id → invP (applyS ss p).1 q (id + 1) = ⟨id + 1, 1, p.sign, p.field, p.new, [id]⟩ := by
      intro q hq
      rw [hq, e]
      unfold invP
      simp only [if_true]
      rw [← hxv, setF_of, setF_zero k2 k3 k4]
    rw [hget _ rfl]
    cases p
    simp at k1
    subst k1
    rfl
  · have e : invP ss p id = ⟨id, 3, p.sign, 0, zeroSg, [p.id]⟩ := by unfold invP; rw [if_neg (by omega), if_pos k1]
    have hthx : there (applyS ss p).1 p.sign = true := by rw [htx]; unfold updP; rw [if_neg (by omega), if_pos k1]; rfl
    obtain ⟨x1, x2, x3, x4⟩ := find_idx g1 hthx
    rw [hfs] at x1
    unfold updP at x1
    rw [if_neg (by omega), if_pos k1] at x1
    have hxv := Option.some.inj x1
    have hget : ∀ q : Pt, q = invP ss p id → invP (applyS ss p).1 q (id + 1) = ⟨id + 1, 2, p.sign, 0, p.new, [id]⟩ := by
      intro q hq
      rw [hq, e]
      unfold invP
      simp
      rw [← List.getD_eq_getElem?_getD, ← hxv]
    rw [hget _ rfl]
    cases p
    simp at k1 k2
    subst k1; subst k2
    rfl
  · have e : invP ss p id = ⟨id, 2, p.sign, 0, ss.getD (idx ss p.sign) default, [p.id]⟩ := by unfold invP; rw [if_neg (by omega), if_neg (by omega)]
    have hget : ∀ q : Pt, q = invP ss p id → invP (applyS ss p).1 q (id + 1) = ⟨id + 1, 3, p.sign, 0, zeroSg, [id]⟩ := by
      intro q hq
      rw [hq, e]
      unfold invP
      simp
    rw [hget _ rfl]
    cases p
    simp at k1 k2 k3
    subst k1; subst k2; subst k3
    rfl
theorem undone_no {ss : List Sg} {p : Pt} {id : Int} (h : (invS ss p id).2 ≠ 0) : (invS ss p id).1 = zeroPt := by
  unfold invS at h ⊢
  repeat' split at h
  all_goals first | (exact absurd rfl h) | simp_all
theorem SX.row_rlen {C : SX.Cx} {ρ : List Value} {α : Nat → SX.AV} {sz : Nat} {β : Type} {f : β → List Value} (hf : ∀ a, (f a).length = sz) (h0 : 0 < sz) {l : List β} {cc : SX.V} (hc : SX.cellsV (cc.den ρ α) = l.flatMap f) : SX.Opq.rel C ρ α (.rlen sz) [cc] (.int .i64 ((l.length : Nat) : Int)) := by
  show _ = _
  rw [hc, SX.flat_len hf, Nat.mul_div_cancel _ h0]
theorem SX.row_relem {C : SX.Cx} {ρ : List Value} {α : Nat → SX.AV} {sz o k : Nat} {i : SX.V} {β : Type} {f : β → List Value} (hf : ∀ a, (f a).length = sz) (h0 : 0 < sz) {l : List β} {cc : SX.V} {z : β} {v : Value} (hc : SX.cellsV (cc.den ρ α) = l.flatMap f) (hi : i.den ρ α = .int .i64 (k : Int)) (hz : l[k]? = some z) (ho : o < sz) (hv : (f z)[o]? = some v) : SX.Opq.rel C ρ α (.relem sz o) [cc, i] v := by
  have hk := (List.getElem?_eq_some_iff.1 hz).1
  refine ⟨(SX.row_bnd (C := C) hf h0 hc hi hk).1, ?_⟩
  rw [hc, hi]
  show (l.flatMap f)[(k : Int).toNat * sz + o]? = some v
  rw [Int.toNat_natCast, ← List.getElem?_drop, SX.flat_elem hf hz, List.getElem?_append_left (by rw [hf]; exact ho), hv]
end Go.Proofs.Ytodlcjhefojibaa
