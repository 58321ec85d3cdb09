/-
  A symbolic executor: a region that draws its order does what its operations do in the text's order.
-/
import Derived.Test.YtmkigejhgpoleaaSx7
import Derived.Test.YtmkigejhgpoleaaAny
namespace Go.Proofs.Ytmkigejhgpoleaa
set_option linter.unusedSimpArgs false
set_option linter.unusedVariables false
open Go Go.RowKit
namespace SX

/-- the state after those of the operations that the mask names -/
def appS (base : Nat) (c : Nat → Bool) : Nat → List (Oper × Done) → S → S
  | _, [], s => s
  | i, (o, d) :: l, s => appS base c (i + 1) l (if c i then s.eff (base + i) o.dst d.v d.new d.wr else s)

/-- the two states hold the same there -/
structure AgreeAt (slots names snames : List Nat) (s s' : S) : Prop where
  fr : ∀ x ∈ slots, s.fr[x]? = s'.fr[x]?
  hp : ∀ n ∈ names, s.hp[n]? = s'.hp[n]?
  ln : ∀ n ∈ snames, s.ln[n]? = s'.ln[n]?
structure Same0 (s s' : S) : Prop where
  sh : s.sh = s'.sh
  kn : s.kn = s'.kn
  stk : s.stk = s'.stk
  cur : s.cur = s'.cur
  frl : s.fr.length = s'.fr.length
  hpl : s.hp.length = s'.hp.length
  lnl : s.ln.length = s'.ln.length
  lps : s.lps = s'.lps
theorem Same0.refl (s : S) : Same0 s s := ⟨rfl, rfl, rfl, rfl, rfl, rfl, rfl, rfl⟩
theorem Same0.trans {a b c : S} (h : Same0 a b) (h' : Same0 b c) : Same0 a c := ⟨h.1.trans h'.1, h.2.trans h'.2, h.3.trans h'.3, h.4.trans h'.4, h.5.trans h'.5, h.6.trans h'.6, h.7.trans h'.7, h.8.trans h'.8⟩
theorem Same0.symm {a b : S} (h : Same0 a b) : Same0 b a := ⟨h.1.symm, h.2.symm, h.3.symm, h.4.symm, h.5.symm, h.6.symm, h.7.symm, h.8.symm⟩
theorem put_same0 (s : S) (d : Option Tmp) (v : V) : Same0 (s.put d v) s := by
  cases d <;> exact ⟨rfl, rfl, rfl, rfl, by simp [S.put], rfl, rfl, rfl⟩
theorem lay_same0 (s : S) (n : Nat) (b : Blk) : Same0 (s.lay n b) s := ⟨rfl, rfl, rfl, rfl, rfl, by simp [S.lay], rfl, rfl⟩
theorem make_same0 (s : S) (n : Nat) (b : Blk) : Same0 (s.make n b) s := ⟨rfl, rfl, rfl, rfl, rfl, by simp [S.make], by simp [S.make], rfl⟩
theorem eff_same0 (s : S) (nm : Nat) (d : Option Tmp) (v : V) (new : Option Blk) (wr : Option (Nat × Blk)) : Same0 (s.eff nm d v new wr) s := by
  unfold S.eff
  refine (put_same0 _ _ _).trans ?_
  cases wr <;> cases new <;> dsimp only
  · exact .refl _
  · exact make_same0 _ _ _
  · exact lay_same0 _ _ _
  · exact (lay_same0 _ _ _).trans (make_same0 _ _ _)
theorem appS_same0 (base : Nat) (c : Nat → Bool) : ∀ (l : List (Oper × Done)) (i : Nat) (s : S), Same0 (appS base c i l s) s
  | [], _, s => .refl s
  | (o, d) :: l, i, s => by
    unfold appS
    refine (appS_same0 base c l (i + 1) _).trans ?_
    split
    · exact eff_same0 ..
    · exact .refl s

theorem eff_fr (s : S) (nm : Nat) (d : Option Tmp) (v : V) (new : Option Blk) (wr : Option (Nat × Blk)) : (s.eff nm d v new wr).fr = (s.put d v).fr := by
  unfold S.eff
  cases wr <;> cases new <;> cases d <;> rfl
def layO (hp : List (Option Blk)) : Option (Nat × Blk) → List (Option Blk)
  | some (n, b) => hp.set n (some b)
  | none => hp
theorem eff_hp (s : S) (nm : Nat) (d : Option Tmp) (v : V) (new : Option Blk) (wr : Option (Nat × Blk)) : (s.eff nm d v new wr).hp = layO (layO s.hp (new.map fun b => (nm, b))) wr := by
  unfold S.eff
  cases wr <;> cases new <;> cases d <;> rfl
theorem eff_ln (s : S) (nm : Nat) (d : Option Tmp) (v : V) (new : Option Blk) (wr : Option (Nat × Blk)) : (s.eff nm d v new wr).ln = layO s.ln (new.map fun b => (nm, b)) := by
  unfold S.eff
  cases wr <;> cases new <;> cases d <;> rfl
theorem layO_other {hp : List (Option Blk)} {e : Option (Nat × Blk)} {n : Nat} (h : n ∉ (match e with | some (m, _) => [m] | none => [])) : (layO hp e)[n]? = hp[n]? := by
  cases e with
  | none => rfl
  | some e =>
    simp only [List.mem_singleton] at h
    simp [layO, List.getElem?_set_ne (fun e => h e.symm)]
theorem layO_len (hp : List (Option Blk)) (e : Option (Nat × Blk)) : (layO hp e).length = hp.length := by cases e <;> simp [layO]
theorem layO_at {hp hp' : List (Option Blk)} (hl : hp.length = hp'.length) {e : Option (Nat × Blk)} {n : Nat} (h : hp[n]? = hp'[n]? ∨ n ∈ (match e with | some (m, _) => [m] | none => [])) : (layO hp e)[n]? = (layO hp' e)[n]? := by
  cases e with
  | none => simpa [layO] using h
  | some e =>
    obtain ⟨m, b⟩ := e
    simp only [List.mem_singleton] at h
    by_cases hm : m = n
    · subst hm; simp [layO, List.getElem?_set, hl]
    · simp only [layO]
      rw [List.getElem?_set_ne hm, List.getElem?_set_ne hm]
      exact h.resolve_right fun e => hm e.symm
theorem wNames_eq (nm : Nat) (d : Done) : wNames nm d = (match d.new.map (fun b => (nm, b)) with | some (m, _) => [m] | none => []) ++ (match d.wr with | some (n, _) => [n] | none => []) := by
  unfold wNames
  cases d.new <;> rfl
theorem eff_fr_other {s : S} {nm : Nat} {d : Option Tmp} {v : V} {new : Option Blk} {wr : Option (Nat × Blk)} {x : Nat} (h : x ∉ d.toList) : (s.eff nm d v new wr).fr[x]? = s.fr[x]? := by
  rw [eff_fr]
  cases d with
  | none => rfl
  | some y =>
    simp only [Option.toList_some, List.mem_singleton] at h
    simp [S.put, List.getElem?_set_ne (fun e => h e.symm)]
theorem nNames_eq (nm : Nat) (d : Done) : nNames nm d = (match d.new.map (fun b => (nm, b)) with | some (m, _) => [m] | none => []) := by
  unfold nNames
  cases d.new <;> rfl
theorem nNames_mem {nm n : Nat} {d : Done} (h : n ∈ nNames nm d) : n = nm := by
  unfold nNames at h
  split at h <;> simp at h
  exact h
theorem eff_ln_other {s : S} {nm : Nat} {o : Option Tmp} {d : Done} {n : Nat} (h : n ∉ nNames nm d) : (s.eff nm o d.v d.new d.wr).ln[n]? = s.ln[n]? := by
  rw [nNames_eq] at h
  rw [eff_ln, layO_other h]
theorem eff_ln_at {s s' : S} (hl : s.ln.length = s'.ln.length) {nm : Nat} {o : Option Tmp} {d : Done} {n : Nat} (hold : s.ln[n]? = s'.ln[n]? ∨ n ∈ nNames nm d) : (s.eff nm o d.v d.new d.wr).ln[n]? = (s'.eff nm o d.v d.new d.wr).ln[n]? := by
  rw [nNames_eq] at hold
  rw [eff_ln, eff_ln]
  exact layO_at hl hold
theorem eff_hp_other {s : S} {nm : Nat} {o : Option Tmp} {d : Done} {n : Nat} (h : n ∉ wNames nm d) : (s.eff nm o d.v d.new d.wr).hp[n]? = s.hp[n]? := by
  rw [wNames_eq, List.mem_append, not_or] at h
  rw [eff_hp, layO_other h.2, layO_other h.1]
/-- what is written at a place -/
theorem eff_fr_at {s s' : S} (hl : s.fr.length = s'.fr.length) {nm : Nat} {d : Option Tmp} {v : V} {new : Option Blk} {wr : Option (Nat × Blk)} {x : Nat} (h : x ∈ d.toList) : (s.eff nm d v new wr).fr[x]? = (s'.eff nm d v new wr).fr[x]? := by
  rw [eff_fr, eff_fr]
  cases d with
  | none => simp at h
  | some y =>
    simp only [Option.toList_some, List.mem_singleton] at h
    subst h
    simp [S.put, List.getElem?_set, hl]
theorem eff_hp_at {s s' : S} (hl : s.hp.length = s'.hp.length) {nm : Nat} {o : Option Tmp} {d : Done} {n : Nat} (hold : s.hp[n]? = s'.hp[n]? ∨ n ∈ wNames nm d) : (s.eff nm o d.v d.new d.wr).hp[n]? = (s'.eff nm o d.v d.new d.wr).hp[n]? := by
  rw [eff_hp, eff_hp]
  rw [wNames_eq, List.mem_append] at hold
  refine layO_at (by rw [layO_len, layO_len, hl]) ?_
  rcases hold with h | h | h
  · exact .inl (layO_at hl (.inl h))
  · exact .inl (layO_at hl (.inr h))
  · exact .inr h
/-- the masks agree on whoever writes there -/
theorem app_fr {base : Nat} {c c' : Nat → Bool} {x : Nat} : ∀ (l : List (Oper × Done)) (i : Nat) (s s' : S), s.fr.length = s'.fr.length → s.fr[x]? = s'.fr[x]? → (∀ (j : Nat) (o : Oper) (d : Done), l[j]? = some (o, d) → x ∈ o.dst.toList → c (i + j) = c' (i + j)) →
    (appS base c i l s).fr[x]? = (appS base c' i l s').fr[x]?
  | [], _, _, _, _, h, _ => h
  | (o, d) :: l, i, s, s', hl, h, hc => by
    unfold appS
    refine app_fr l (i + 1) _ _ ?_ ?_ fun j o' d' hj hx => by
      have := hc (j + 1) o' d' (by simpa using hj) hx
      rwa [show i + (j + 1) = i + 1 + j by omega] at this
    · split <;> split <;> simp [(eff_same0 ..).frl, hl]
    · by_cases hx : x ∈ o.dst.toList
      · have := hc 0 o d rfl hx
        rw [Nat.add_zero] at this
        rw [this]
        split
        · exact eff_fr_at hl hx
        · exact h
      · split <;> split <;> (try simp only [eff_fr_other hx]) <;> exact h
theorem app_hp {base : Nat} {c c' : Nat → Bool} {n : Nat} : ∀ (l : List (Oper × Done)) (i : Nat) (s s' : S), s.hp.length = s'.hp.length → s.hp[n]? = s'.hp[n]? → (∀ (j : Nat) (o : Oper) (d : Done), l[j]? = some (o, d) → n ∈ wNames (base + (i + j)) d → c (i + j) = c' (i + j)) →
    (appS base c i l s).hp[n]? = (appS base c' i l s').hp[n]?
  | [], _, _, _, _, h, _ => h
  | (o, d) :: l, i, s, s', hl, h, hc => by
    unfold appS
    refine app_hp l (i + 1) _ _ ?_ ?_ fun j o' d' hj => by
      have := hc (j + 1) o' d' (by simpa using hj)
      rwa [show i + (j + 1) = i + 1 + j by omega] at this
    · split <;> split <;> simp [(eff_same0 ..).hpl, hl]
    · have hx1 := hc 0 o d rfl
      rw [Nat.add_zero] at hx1
      by_cases hx : n ∈ wNames (base + i) d
      · rw [hx1 hx]
        split
        · exact eff_hp_at hl (.inr hx)
        · exact h
      · split <;> split <;> (try simp only [eff_hp_other hx]) <;> exact h
theorem app_ln {base : Nat} {c c' : Nat → Bool} {n : Nat} : ∀ (l : List (Oper × Done)) (i : Nat) (s s' : S), s.ln.length = s'.ln.length → s.ln[n]? = s'.ln[n]? → (∀ (j : Nat) (o : Oper) (d : Done), l[j]? = some (o, d) → n ∈ nNames (base + (i + j)) d → c (i + j) = c' (i + j)) →
    (appS base c i l s).ln[n]? = (appS base c' i l s').ln[n]?
  | [], _, _, _, _, h, _ => h
  | (o, d) :: l, i, s, s', hl, h, hc => by
    unfold appS
    refine app_ln l (i + 1) _ _ ?_ ?_ fun j o' d' hj => by
      have := hc (j + 1) o' d' (by simpa using hj)
      rwa [show i + (j + 1) = i + 1 + j by omega] at this
    · split <;> split <;> simp [(eff_same0 ..).lnl, hl]
    · have hx1 := hc 0 o d rfl
      rw [Nat.add_zero] at hx1
      by_cases hx : n ∈ nNames (base + i) d
      · rw [hx1 hx]
        split
        · exact eff_ln_at hl (.inr hx)
        · exact h
      · split <;> split <;> (try simp only [eff_ln_other hx]) <;> exact h
theorem S.ext' {s s' : S} (h : Same0 s s') (hf : ∀ x : Nat, s.fr[x]? = s'.fr[x]?) (hh : ∀ n : Nat, s.hp[n]? = s'.hp[n]?) (hn : ∀ n : Nat, s.ln[n]? = s'.ln[n]?) : s = s' := by
  cases s; cases s'
  obtain ⟨h1, h2, h3, h4, h5, h6, h7, h8⟩ := h
  have e1 := List.ext_getElem? hf
  have e2 := List.ext_getElem? hh
  have e3 := List.ext_getElem? hn
  simp only at *
  subst h1; subst h2; subst h3; subst h4; subst h8; subst e1; subst e2; subst e3
  rfl
theorem app_none (base : Nat) : ∀ (l : List (Oper × Done)) (i : Nat) (s : S), appS base (fun _ => false) i l s = s
  | [], _, _ => rfl
  | (o, d) :: l, i, s => by unfold appS; simpa using app_none base l (i + 1) s
theorem app_split (base : Nat) (c : Nat → Bool) : ∀ (l m : List (Oper × Done)) (i : Nat) (s : S), appS base c i (l ++ m) s = appS base c (i + l.length) m (appS base c i l s)
  | [], m, i, s => rfl
  | (o, d) :: l, m, i, s => by
    simp only [List.cons_append, appS, List.length_cons]
    rw [app_split base c l m (i + 1)]
    congr 1; omega
/-- one more operation, at its place -/
theorem app_add {base : Nat} {c : Nat → Bool} {l : List (Oper × Done)} {s : S} {i : Nat} {o : Oper} {d : Done} (hi : l[i]? = some (o, d)) (hci : c i = false)
    (hfree : ∀ (j : Nat) (o' : Oper) (d' : Done), l[j]? = some (o', d') → c j = true → i < j → (∀ x ∈ o.dst.toList, x ∉ o'.dst.toList) ∧ (∀ n ∈ wNames (base + i) d, n ∉ wNames (base + j) d') ∧ (∀ n ∈ nNames (base + i) d, n ∉ nNames (base + j) d')) :
    (appS base c 0 l s).eff (base + i) o.dst d.v d.new d.wr = appS base (upd c i) 0 l s := by
  refine S.ext' ((eff_same0 ..).trans ((appS_same0 ..).trans (appS_same0 ..).symm)) (fun x => ?_) (fun n => ?_) fun n => ?_
  · have hlt := (List.getElem?_eq_some_iff.1 hi).1
    have hsp : l = l.take i ++ (o, d) :: l.drop (i + 1) := by
      have := List.getElem?_eq_some_iff.1 hi
      rw [← this.2, List.getElem_cons_drop, List.take_append_drop]
    by_cases hx : x ∈ o.dst.toList
    · have hr : (appS base (upd c i) 0 l s).fr[x]? = ((appS base (upd c i) 0 (l.take i) s).eff (base + i) o.dst d.v d.new d.wr).fr[x]? := by
        rw [hsp, app_split]
        rw [← hsp, List.length_take, Nat.min_eq_left (by omega), Nat.zero_add]
        simp only [appS, upd, if_true]
        rw [app_fr (c' := fun _ => false) _ _ _ _ rfl rfl fun j o' d' hj hx' => ?_, app_none]
        have hj' : l[i + 1 + j]? = some (o', d') := by rw [List.getElem?_drop] at hj; exact hj
        show (if i + 1 + j = i then true else c (i + 1 + j)) = false
        rw [if_neg (by omega)]
        cases hc : c (i + 1 + j) with
        | false => rfl
        | true => exact absurd hx' ((hfree _ _ _ hj' hc (by omega)).1 x hx)
      rw [hr]
      exact eff_fr_at (by rw [(appS_same0 ..).frl, (appS_same0 ..).frl]) hx
    · rw [eff_fr_other hx]
      refine app_fr l 0 s s rfl rfl fun j o' d' hj hx' => ?_
      rw [Nat.zero_add]
      unfold upd
      split
      · rename_i e
        subst e
        rw [hi] at hj
        cases hj
        exact absurd hx' hx
      · rfl
  · have hlt := (List.getElem?_eq_some_iff.1 hi).1
    have hsp : l = l.take i ++ (o, d) :: l.drop (i + 1) := by
      have := List.getElem?_eq_some_iff.1 hi
      rw [← this.2, List.getElem_cons_drop, List.take_append_drop]
    by_cases hx : n ∈ wNames (base + i) d
    · have hr : (appS base (upd c i) 0 l s).hp[n]? = ((appS base (upd c i) 0 (l.take i) s).eff (base + i) o.dst d.v d.new d.wr).hp[n]? := by
        rw [hsp, app_split]
        rw [← hsp, List.length_take, Nat.min_eq_left (by omega), Nat.zero_add]
        simp only [appS, upd, if_true]
        rw [app_hp (c' := fun _ => false) _ _ _ _ rfl rfl fun j o' d' hj => ?_, app_none]
        have hj' : l[i + 1 + j]? = some (o', d') := by rw [List.getElem?_drop] at hj; exact hj
        intro hx'
        show (if i + 1 + j = i then true else c (i + 1 + j)) = false
        rw [if_neg (by omega)]
        cases hc : c (i + 1 + j) with
        | false => rfl
        | true => exact absurd hx' ((hfree _ _ _ hj' hc (by omega)).2.1 n hx)
      rw [hr]
      exact eff_hp_at (by rw [(appS_same0 ..).hpl, (appS_same0 ..).hpl]) (.inr hx)
    · rw [eff_hp_other hx]
      refine app_hp l 0 s s rfl rfl fun j o' d' hj hx' => ?_
      rw [Nat.zero_add] at hx' ⊢
      unfold upd
      split
      · rename_i e
        subst e
        rw [hi] at hj
        cases hj
        exact absurd hx' hx
      · rfl
  · have hlt := (List.getElem?_eq_some_iff.1 hi).1
    have hsp : l = l.take i ++ (o, d) :: l.drop (i + 1) := by
      have := List.getElem?_eq_some_iff.1 hi
      rw [← this.2, List.getElem_cons_drop, List.take_append_drop]
    by_cases hx : n ∈ nNames (base + i) d
    · have hr : (appS base (upd c i) 0 l s).ln[n]? = ((appS base (upd c i) 0 (l.take i) s).eff (base + i) o.dst d.v d.new d.wr).ln[n]? := by
        rw [hsp, app_split]
        rw [← hsp, List.length_take, Nat.min_eq_left (by omega), Nat.zero_add]
        simp only [appS, upd, if_true]
        rw [app_ln (c' := fun _ => false) _ _ _ _ rfl rfl fun j o' d' hj => ?_, app_none]
        have hj' : l[i + 1 + j]? = some (o', d') := by rw [List.getElem?_drop] at hj; exact hj
        intro hx'
        show (if i + 1 + j = i then true else c (i + 1 + j)) = false
        rw [if_neg (by omega)]
        cases hc : c (i + 1 + j) with
        | false => rfl
        | true => exact absurd hx' ((hfree _ _ _ hj' hc (by omega)).2.2 n hx)
      rw [hr]
      exact eff_ln_at (by rw [(appS_same0 ..).lnl, (appS_same0 ..).lnl]) (.inr hx)
    · rw [eff_ln_other hx]
      refine app_ln l 0 s s rfl rfl fun j o' d' hj hx' => ?_
      rw [Nat.zero_add] at hx' ⊢
      unfold upd
      split
      · rename_i e
        subst e
        rw [hi] at hj
        cases hj
        exact absurd hx' hx
      · rfl

/-- what has to come up ahead -/
inductive Anc (all : List Oper) : Nat → Nat → Prop
  | one {p j : Nat} {o : Oper} : all[j]? = some o → p ∈ preds o → Anc all p j
  | more {p q j : Nat} {o : Oper} : all[j]? = some o → q ∈ preds o → Anc all p q → Anc all p j
theorem ancL_ok (all : List Oper) : ∀ (l : List Oper) (acc : List (List Nat)), (∀ j, l[j]? = all[acc.length + j]?) → (∀ j i, i ∈ acc.getD j [] → Anc all i j) → ∀ j i, i ∈ (ancL l acc).getD j [] → Anc all i j
  | [], acc, _, h, j, i, hi => h j i hi
  | o :: l, acc, hl, h, j, i, hi => by
    unfold ancL at hi
    refine ancL_ok all l _ (fun k => ?_) (fun k m hm => ?_) j i hi
    · have := hl (k + 1)
      rw [List.length_append, List.length_singleton, show acc.length + 1 + k = acc.length + (k + 1) by omega, ← this]
      simp
    · by_cases hk : k < acc.length
      · rw [List.getD_eq_getElem?_getD, List.getElem?_append_left hk, ← List.getD_eq_getElem?_getD] at hm
        exact h k m hm
      · rw [List.getD_eq_getElem?_getD, List.getElem?_append_right (by omega)] at hm
        have h0 : k - acc.length = 0 := by
          rcases Nat.eq_zero_or_pos (k - acc.length) with h0 | h0
          · exact h0
          · rw [List.getElem?_eq_none (by simp; omega)] at hm; simp at hm
        rw [h0] at hm
        have hk' : k = acc.length := by omega
        subst hk'
        have ho : all[acc.length]? = some o := by have := hl 0; simpa using this.symm
        simp only [List.getElem?_cons_zero, Option.getD_some] at hm
        replace hm := mem_once hm
        simp only [List.mem_append, List.mem_flatMap] at hm
        rcases hm with hm | ⟨p, hp, hm⟩
        · exact .one ho hm
        · exact .more ho hp (h p m hm)
/-- closed under what has to come up ahead -/
def Closed (all : List Oper) (c : Nat → Bool) : Prop := ∀ j o p, all[j]? = some o → c j = true → p ∈ preds o → c p = true
theorem Closed.anc {all : List Oper} {c : Nat → Bool} (h : Closed all c) {i j : Nat} (ha : Anc all i j) : c j = true → c i = true := by
  induction ha with
  | one ho hp => exact fun hc => h _ _ _ ho hc hp
  | more ho hq _ ih => exact fun hc => ih (h _ _ _ ho hc hq)

theorem pairOk_get {base : Nat} {anc : List (List Nat)} {j : Nat} {o' : Oper} {d' : Done} : ∀ {l : List (Oper × Done)} {i k : Nat} {o : Oper} {d : Done}, pairOk base anc j o' d' i l = true → l[k]? = some (o, d) → conflict base (i + k) j o d o' d' = true → (i + k) ∈ anc.getD j []
  | [], _, _, _, _, _, h, _ => by simp at h
  | (o0, d0) :: l, i, 0, o, d, h, hk, hc => by
    simp only [pairOk, Bool.and_eq_true, Bool.or_eq_true, Bool.not_eq_true'] at h
    obtain ⟨rfl, rfl⟩ : o0 = o ∧ d0 = d := by simpa using hk
    rcases h.1 with h1 | h1
    · rw [Nat.add_zero, h1] at hc; cases hc
    · simpa using h1
  | (o0, d0) :: l, i, k + 1, o, d, h, hk, hc => by
    simp only [pairOk, Bool.and_eq_true] at h
    have := pairOk_get (k := k) h.2 (by simpa using hk) (by rwa [show i + 1 + k = i + (k + 1) by omega])
    rwa [show i + 1 + k = i + (k + 1) by omega] at this
theorem pairsOk_get {base : Nat} {anc : List (List Nat)} : ∀ {l pre : List (Oper × Done)}, pairsOk base anc pre l = true → ∀ {i j : Nat} {o o' : Oper} {d d' : Done}, (pre ++ l)[i]? = some (o, d) → l[j]? = some (o', d') → i < pre.length + j → conflict base i (pre.length + j) o d o' d' = true → i ∈ anc.getD (pre.length + j) []
  | [], _, _, _, _, _, _, _, _, _, h, _, _ => by simp at h
  | (o0, d0) :: l, pre, h, i, j, o, o', d, d', hi, hj, hlt, hc => by
    simp only [pairsOk, Bool.and_eq_true] at h
    cases j with
    | zero =>
      obtain ⟨rfl, rfl⟩ : o0 = o' ∧ d0 = d' := by simpa using hj
      rw [Nat.add_zero] at hlt hc ⊢
      have := pairOk_get (i := 0) (k := i) h.1 (by rw [← hi, List.getElem?_append_left hlt]) (by rwa [Nat.zero_add])
      rwa [Nat.zero_add] at this
    | succ j =>
      have := pairsOk_get (l := l) (pre := pre ++ [(o0, d0)]) h.2 (i := i) (j := j) (o := o) (o' := o') (d := d) (d' := d') (by simpa using hi) (by simpa using hj) (by simp; omega) (by simpa [show pre.length + 1 + j = pre.length + (j + 1) by omega] using hc)
      simpa [show pre.length + 1 + j = pre.length + (j + 1) by omega] using this
theorem backOk_get : ∀ {l : List Oper} {i : Nat}, backOk i l = true → ∀ {j : Nat} {o : Oper} {p : Nat}, l[j]? = some o → p ∈ preds o → p < i + j
  | [], _, _, _, _, _, h, _ => by simp at h
  | o0 :: l, i, h, j, o, p, hj, hp => by
    simp only [backOk, Bool.and_eq_true] at h
    cases j with
    | zero =>
      obtain rfl : o0 = o := by simpa using hj
      have := List.all_eq_true.1 h.1 p hp
      simpa using this
    | succ j =>
      have := backOk_get (j := j) h.2 (by simpa using hj) hp
      omega
theorem mem_preds {o : Oper} {p : Nat} : p ∈ preds o ↔ ∃ e ∈ o.after, Region.binds .any e = true ∧ e.on = p := by
  simp [preds, and_assoc]
theorem meets_no {l m : List Nat} (h : meets l m = false) : ∀ x ∈ l, x ∉ m := fun x hx hm => by
  have : meets l m = true := List.any_eq_true.2 ⟨x, hx, by simpa using hm⟩
  rw [h] at this
  cases this

section
variable {C : Cx} {w0 : Org} {ps : List (World → Prop)} {T : List TF} {ρ : List Value} {Q : Exit → Act → World → Prop}
theorem wpAnyIn_inv {F : Fence} {m : Nat} {P : Program} {ops : Array Oper} {md : Region.Mode} (I : Array Bool → Act → World → Prop)
    (hstep : ∀ listed a w i, listed.size = ops.size → I listed a w → i ∈ Region.ready md ops listed → wpOpIn F m P ops Q i (fun a' w' => I (listed.setIfInBounds i true) a' w') a w)
    (hend : ∀ listed a w, listed.size = ops.size → I listed a w → Region.ready md ops listed = [] → Q .normal a w) :
    ∀ fuel listed a w, listed.size = ops.size → (listed.toList.filter (! ·)).length ≤ fuel → I listed a w → wpAnyIn F m P md ops Q fuel listed a w := by
  intro fuel
  induction fuel with
  | zero =>
    intro listed a w hs hc hI
    have hr : Region.ready md ops listed = [] := by
      rw [Region.ready, List.filter_eq_nil_iff]
      intro i hi
      have hi' : i < listed.size := by rw [hs]; simpa using hi
      have : listed[i] = true := by
        cases hb : listed[i] with
        | true => rfl
        | false =>
          exfalso
          have hm : false ∈ listed.toList.filter (! ·) := by
            rw [List.mem_filter]
            exact ⟨by rw [← hb]; exact Array.getElem_mem_toList hi', rfl⟩
          have := List.length_pos_of_mem hm
          omega
      simp [Array.getD, hi', this]
    exact ⟨hr, hend _ _ _ hs hI hr⟩
  | succ fuel ih =>
    intro listed a w hs hc hI
    refine ⟨fun h0 => hend _ _ _ hs hI h0, fun i hi => wpOpIn_mono (fun a' w' h' => ?_) (hstep listed a w i hs hI hi)⟩
    refine ih _ _ _ (by simpa using hs) ?_ h'
    have hi1 : i < ops.size ∧ listed.getD i true = false := by
      rw [Region.ready, List.mem_filter] at hi
      exact ⟨by simpa using hi.1, by have := hi.2; simp only [Bool.and_eq_true, Bool.not_eq_true'] at this; exact this.1⟩
    have hlt : i < listed.toList.length := by simp [hs, hi1.1]
    have hf : listed.toList[i] = false := by
      have h2 := hi1.2
      simp only [Array.getD, show i < listed.size by omega, dif_pos] at h2
      simpa using h2
    have := count_set listed.toList i hlt hf
    rw [Array.toList_setIfInBounds]
    omega

/-- one operation runs as said, wherever what it looks at is as said -/
def StepOk (C : Cx) (rr : Option Nat) (w0 : Org) (ps : List (World → Prop)) (T : List TF) (ρ : List Value) (Q : Exit → Act → World → Prop) (all : Array Oper) (nm : Nat) (o : Oper) (d : Done) (pre : S) : Prop :=
  ∀ (s : S) (a : Act) (W : World) (K : Act → World → Prop), Same0 s pre → AgreeAt d.slots (nm :: d.names) (nm :: d.snames) s pre → Inv w0 ps T ρ s a W → (∀ a' W', Inv w0 ps T ρ (s.eff nm o.dst d.v d.new d.wr) a' W' → K a' W') →
    if Region.wanted o (yielded all a.tmps) = true then o.wpIn (FW rr) 0 C.P a W K Q else K (a.put o.dst undef) W

theorem draw_region {rr : Option Nat} {id : Nat} {l : List Oper} {ds : List Done} {base : Nat} {s0 : S} {a : Act} {W : World} (hm : C.P.follows .mixedOrders = true) (hord : orderOk base l ds = true)
    (hst : ∀ (i : Nat) (o : Oper) (d : Done), (l.zip ds)[i]? = some (o, d) → StepOk C rr w0 ps T ρ Q l.toArray (base + i) o d (appS base (fun j => decide (j < i)) 0 (l.zip ds) s0)) (hI : Inv w0 ps T ρ s0 a W)
    (hK : ∀ a' W', Inv w0 ps T ρ (appS base (fun _ => true) 0 (l.zip ds) s0) a' W' → Q .normal a' W') : wpR rr C.P (Code.region id l.toArray true) Q a W := by
  simp only [orderOk, Bool.and_eq_true, decide_eq_true_eq] at hord
  obtain ⟨⟨hback, hlen⟩, hpairs⟩ := hord
  have hanc : ∀ j i, i ∈ (ancL l []).getD j [] → Anc l i j := ancL_ok l l [] (by simp) (by simp)
  have hzip : ∀ i o, l[i]? = some o → ∃ d, (l.zip ds)[i]? = some (o, d) := fun i o ho => by
    have h1 := (List.getElem?_eq_some_iff.1 ho).1
    exact ⟨ds[i]'(by omega), List.getElem?_zip_eq_some.2 ⟨ho, List.getElem?_eq_getElem _⟩⟩
  have hzl : ∀ i o d, (l.zip ds)[i]? = some (o, d) → l[i]? = some o := fun i o d h => (List.getElem?_zip_eq_some.1 h).1
  -- two operations of which neither has to come up ahead do not touch
  have hfree : ∀ {c : Nat → Bool} {i j : Nat} {o o' : Oper} {d d' : Done}, Closed l c → c i = false → c j = true → (l.zip ds)[i]? = some (o, d) → (l.zip ds)[j]? = some (o', d') → i < j → conflict base i j o d o' d' = false := fun {c i j o o' d d'} hc hi hj ho ho' hlt => by
    cases hq : conflict base i j o d o' d' with
    | false => rfl
    | true =>
      have := pairsOk_get hpairs (i := i) (j := j) ho ho' (by simpa using hlt) (by simpa using hq)
      have h2 := hc.anc (hanc _ _ (by simpa using this)) hj
      rw [hi] at h2; cases h2
  have hbefore : ∀ {i j : Nat} {o o' : Oper} {d d' : Done} {c : Nat → Bool}, (l.zip ds)[i]? = some (o, d) → (l.zip ds)[j]? = some (o', d') → j < i → (∀ p ∈ preds o, c p = true) → Closed l c → c j = false → conflict base j i o' d' o d = false := fun {i j o o' d d' c} ho ho' hlt hp hc hj => by
    cases hq : conflict base j i o' d' o d with
    | false => rfl
    | true =>
      have := hanc _ _ (by simpa using pairsOk_get hpairs (i := j) (j := i) ho' ho (by simpa using hlt) (by simpa using hq))
      exfalso
      have key : c j = true := by
        cases this with
        | one ho2 hp2 => rw [hzl _ _ _ ho] at ho2; cases ho2; exact hp _ hp2
        | more ho2 hq2 ha => rw [hzl _ _ _ ho] at ho2; cases ho2; exact hc.anc ha (hp _ hq2)
      rw [hj] at key; cases key
  refine wpIn_region_any hm (wpAnyIn_inv (fun listed b W => Closed l (fun i => listed.getD i false) ∧ Inv w0 ps T ρ (appS base (fun i => listed.getD i false) 0 (l.zip ds) s0) b W) ?_ ?_ l.toArray.size _ _ _ (by simp) ?_ ?_)
  · rintro listed b W i hs ⟨hcl, hinv⟩ hi
    obtain ⟨hu, o, ho, hpre⟩ := mem_ready.1 hi
    have hol : l[i]? = some o := by simpa using ho
    obtain ⟨d, hd⟩ := hzip i o hol
    have hci : listed.getD i false = false := getD_both hu
    have hpreds : ∀ p ∈ preds o, listed.getD p false = true := fun p hp => by
      obtain ⟨e, he, hb, rfl⟩ := mem_preds.1 hp
      exact hpre e he hb
    have hstep := hst i o d hd
    have hagree : AgreeAt d.slots ((base + i) :: d.names) ((base + i) :: d.snames) (appS base (fun i => listed.getD i false) 0 (l.zip ds) s0) (appS base (fun j => decide (j < i)) 0 (l.zip ds) s0) := by
      refine ⟨fun x hx => app_fr _ 0 s0 s0 rfl rfl fun j o' d' hj hx' => ?_, fun n hn => app_hp _ 0 s0 s0 rfl rfl fun j o' d' hj hx' => ?_, fun n hn => app_ln _ 0 s0 s0 rfl rfl fun j o' d' hj hx' => ?_⟩
      · rw [Nat.zero_add]
        rcases Nat.lt_trichotomy j i with hlt | rfl | hgt
        · have h3 : decide (j < i) = true := by simpa using hlt
          rw [h3]
          cases hq : listed.getD j false with
          | true => rfl
          | false =>
            have := hbefore (c := fun i => listed.getD i false) hd hj hlt hpreds hcl hq
            simp only [conflict, Bool.or_eq_false_iff] at this
            exact absurd (List.mem_append_left _ hx) (meets_no this.1.1.1.1.1 x hx')
        · rw [hci]; simp
        · have h3 : decide (j < i) = false := by simp; omega
          rw [h3]
          cases hq : listed.getD j false with
          | false => rfl
          | true =>
            have := hfree (c := fun i => listed.getD i false) hcl hci hq hd hj hgt
            simp only [conflict, Bool.or_eq_false_iff] at this
            exact absurd hx (meets_no this.1.1.1.1.2 x hx')
      · rw [Nat.zero_add] at hx' ⊢
        rcases Nat.lt_trichotomy j i with hlt | rfl | hgt
        · have h3 : decide (j < i) = true := by simpa using hlt
          rw [h3]
          cases hq : listed.getD j false with
          | true => rfl
          | false =>
            have := hbefore (c := fun i => listed.getD i false) hd hj hlt hpreds hcl hq
            simp only [conflict, Bool.or_eq_false_iff] at this
            refine absurd ?_ (meets_no this.1.1.1.2 n hx')
            rcases List.mem_cons.1 hn with rfl | hn
            · simp
            · simp [hn]
        · rw [hci]; simp
        · have h3 : decide (j < i) = false := by simp; omega
          rw [h3]
          cases hq : listed.getD j false with
          | false => rfl
          | true =>
            have := hfree (c := fun i => listed.getD i false) hcl hci hq hd hj hgt
            simp only [conflict, Bool.or_eq_false_iff] at this
            refine absurd ?_ (meets_no this.1.1.2 n hx')
            rcases List.mem_cons.1 hn with rfl | hn
            · simp
            · simp [hn]
      · rw [Nat.zero_add] at hx' ⊢
        rcases Nat.lt_trichotomy j i with hlt | rfl | hgt
        · have h3 : decide (j < i) = true := by simpa using hlt
          rw [h3]
          cases hq : listed.getD j false with
          | true => rfl
          | false =>
            have := hbefore (c := fun i => listed.getD i false) hd hj hlt hpreds hcl hq
            simp only [conflict, Bool.or_eq_false_iff] at this
            refine absurd ?_ (meets_no this.1.2 n hx')
            rcases List.mem_cons.1 hn with rfl | hn
            · simp
            · simp [hn]
        · rw [hci]; simp
        · have h3 : decide (j < i) = false := by simp; omega
          rw [h3]
          cases hq : listed.getD j false with
          | false => rfl
          | true =>
            have := hfree (c := fun i => listed.getD i false) hcl hci hq hd hj hgt
            simp only [conflict, Bool.or_eq_false_iff] at this
            refine absurd ?_ (meets_no this.2 n hx')
            rcases List.mem_cons.1 hn with rfl | hn
            · simp
            · simp [hn]
    have hsame : Same0 (appS base (fun i => listed.getD i false) 0 (l.zip ds) s0) (appS base (fun j => decide (j < i)) 0 (l.zip ds) s0) :=
      (appS_same0 ..).trans (appS_same0 ..).symm
    have hfin := hstep _ b W (fun a' w' => Closed l (fun j => (listed.setIfInBounds i true).getD j false) ∧ Inv w0 ps T ρ (appS base (fun j => (listed.setIfInBounds i true).getD j false) 0 (l.zip ds) s0) a' w') hsame hagree hinv fun a' W' h => by
      have hmask : (fun j => (listed.setIfInBounds i true).getD j false) = upd (fun j => listed.getD j false) i := by
        funext j
        unfold upd
        by_cases e : j = i
        · subst e
          have hlt : j < listed.size := by rw [hs]; simpa using (List.getElem?_eq_some_iff.1 hol).1
          simp [Array.getD_eq_getD_getElem?, hlt]
        · rw [if_neg e, getD_set_ne false (fun h => e h.symm)]
      refine ⟨?_, ?_⟩
      · rw [hmask]
        intro j o' p hj hcj hp
        unfold upd at hcj ⊢
        by_cases e : p = i
        · rw [if_pos e]
        · rw [if_neg e]
          by_cases e2 : j = i
          · subst e2
            rw [hol] at hj; cases hj
            exact hpreds p hp
          · rw [if_neg e2] at hcj
            exact hcl j o' p hj hcj hp
      · rw [hmask, ← app_add hd hci fun j o' d' hj hcj hlt => ?_]
        · exact h
        · have := hfree (c := fun i => listed.getD i false) hcl hci hcj hd hj hlt
          simp only [conflict, Bool.or_eq_false_iff] at this
          exact ⟨fun x hx hx' => meets_no this.1.1.1.1.1 x hx (List.mem_append_right _ hx'), fun n hn hn' => meets_no this.1.1.1.2 n hn (by simp [hn']), fun n hn hn' => meets_no this.1.2 n hn (by simp [nNames_mem hn'])⟩
    unfold wpOpIn
    rw [ho]
    dsimp only
    split
    · rename_i hw; rw [if_pos hw] at hfin; exact hfin
    · rename_i hw; rw [if_neg hw] at hfin; exact ⟨fun _ _ => trivial, hfin⟩
  · rintro listed b W hs ⟨hcl, hinv⟩ hr
    have hall : ∀ i, i < l.length → listed.getD i false = true := by
      intro i
      induction i using Nat.strongRecOn with
      | ind i ih =>
        intro hi
        cases hb : listed.getD i false with
        | true => rfl
        | false =>
          exfalso
          have hm : i ∈ Region.ready .any l.toArray listed := by
            refine mem_ready.2 ⟨getD_in (by rw [hs]; simpa using hi) hb, l[i], by simp [hi], fun e he hbd => ?_⟩
            have := backOk_get hback (List.getElem?_eq_getElem hi) (mem_preds.2 ⟨e, he, hbd, rfl⟩)
            rw [Nat.zero_add] at this
            exact ih e.on this (by omega)
          rw [hr] at hm
          cases hm
    have he : appS base (fun i => listed.getD i false) 0 (l.zip ds) s0 = appS base (fun _ => true) 0 (l.zip ds) s0 := by
      refine S.ext' ((appS_same0 ..).trans (appS_same0 ..).symm) (fun x => app_fr _ 0 s0 s0 rfl rfl fun j o' d' hj _ => ?_) (fun n => app_hp _ 0 s0 s0 rfl rfl fun j o' d' hj _ => ?_) fun n => app_ln _ 0 s0 s0 rfl rfl fun j o' d' hj _ => ?_
      all_goals
        rw [Nat.zero_add]
        exact hall j (List.getElem?_eq_some_iff.1 (hzl _ _ _ hj)).1
    rw [he] at hinv
    exact hK _ _ hinv
  · rw [Array.toList_replicate]; exact Nat.le_trans (List.length_filter_le _ _) (by simp)
  · have hz : (fun i => (Array.replicate l.toArray.size false).getD i false) = fun _ => false := funext fun i => getD_replicate_false _ _
    refine ⟨(by rw [hz]; exact fun j o p _ hc _ => nomatch hc), ?_⟩
    have : appS base (fun i => (Array.replicate l.toArray.size false).getD i false) 0 (l.zip ds) s0 = s0 := by
      rw [hz, app_none]
    rw [this]
    exact hI.step ((Below.refl _ _).drew)
theorem wpIn_put {rr : Option Nat} {P : Program} {o : Oper} {all : Array Oper} {y : Nat} {v : Value} {b : Act} {W : World} {K : Act → World → Prop} (hp : plainOp o.op = true) (hy : y ∉ o.looksAt all) (hyd : o.dst ≠ some y) (hQ : ∀ c a w, ¬ Q (.panic c) a w)
    (h : o.wpIn (FW rr) 0 P (b.put (some y) v) W K Q) : o.wpIn (FW rr) 0 P b W (fun a W => K (a.put (some y) v) W) Q := by
  have hs : ∀ cs b, o.op ≠ .select cs b := fun cs b e => by rw [e] at hp; cases hp
  have hd : ∀ c, o.op ≠ .defer c := fun c e => by rw [e] at hp; cases hp
  refine ⟨fun _ _ => trivial, ?_⟩
  have h := h.2
  rw [Oper.semAt_eq _ _ _ hd, execOp_put (ops := all) o hs b (some y) v (fun d e => by cases e; exact hy)] at h
  rw [Oper.semAt_eq _ _ _ hd]
  have hc : ∀ (a : Act) u, (a.put (some y) v).put o.dst u = (a.put o.dst u).put (some y) v := fun a u => Act.put_comm a v u fun d e => by cases e; exact hyd
  generalize (execOp b.eval o).run P W = r at h ⊢
  cases r with
  | ok x w' =>
    cases x <;> simp only [Oper.uponIn] at h ⊢
    case value u => rw [← hc]; exact h
    case skip => rw [← hc]; exact h
    case defer d => rw [← hc, ← Act.put_defers]; exact h
    case enter f as' => exact ⟨h.1, CallsIn.mono h.2 fun e w'' he => by cases e <;> first | (show K _ _; rw [← hc]; exact he) | exact (hQ _ _ _ he).elim | exact he⟩
    case row f as' => exact ⟨h.1, RowsIn.mono h.2 fun e w'' he => by rw [← hc]; exact he⟩
    case round l f t as' bd => exact ⟨h.1, RoundIn.mono h.2 fun e w'' he => by cases e <;> first | (show K _ _; rw [← hc]; exact he) | exact (hQ _ _ _ he).elim | exact he⟩
    all_goals exact h
  | halt x w' => cases x <;> simp only [Oper.uponIn] at h ⊢ <;> first | exact (hQ _ _ _ h).elim | exact h
theorem wpIn_move {rr : Option Nat} {P : Program} {o : Oper} {x y : Nat} {b : Act} {W : World} {K : Act → World → Prop} (hm : moveOf o = some (x, y)) : o.wpIn (FW rr) 0 P b W K Q ↔ K (b.put (some y) (b.eval (.tmp x))) W := by
  obtain ⟨dst, op, ty, pos, aft, g⟩ := o
  unfold moveOf at hm
  split at hm
  · rename_i hg ho hd
    cases hm
    simp only at hg ho hd
    subst hg; subst ho; subst hd
    unfold Oper.wpIn
    rw [Oper.semAt_eq _ _ _ (by intro c e; cases e)]
    simp only [execOp]
    exact ⟨fun h => h.2, fun h => ⟨fun _ _ => trivial, h⟩⟩
  · cases hm
theorem moveOf_wanted {o : Oper} {x y : Nat} (hm : moveOf o = some (x, y)) (l : Nat → Option Bool) : Region.wanted o l = true := by
  unfold moveOf at hm
  split at hm
  · rename_i hg _ _
    simp [Region.wanted, hg]
  · cases hm
theorem getD_upd {listed : Array Bool} {i k : Nat} (h : i < listed.size) : (listed.setIfInBounds i true).getD k false = if k = i then true else listed.getD k false := by
  by_cases e : k = i
  · subst e
    simp [Array.getD_eq_getD_getElem?, h]
  · rw [if_neg e, getD_set_ne false (fun h => e h.symm)]
/-- what the continuation is told: a value in the operation's slot, whatever was put off -/
theorem wpIn_keep {rr : Option Nat} {P : Program} {o : Oper} {b : Act} {W : World} {K K' : Act → World → Prop} (hp : plainOp o.op = true) (h : o.wpIn (FW rr) 0 P b W K Q) (hk : ∀ u ds' W', K (({ b with defers := ds' } : Act).put o.dst u) W' → K' (({ b with defers := ds' } : Act).put o.dst u) W') : o.wpIn (FW rr) 0 P b W K' Q := by
  refine ⟨h.1, ?_⟩
  have h := h.2
  generalize (o.semAt (FW rr).round b.eval).run P W = r at h ⊢
  cases r with
  | ok x w' =>
    cases x <;> simp only [Oper.uponIn] at h ⊢
    case value u => exact hk u b.defers w' h
    case skip => exact hk undef b.defers w' h
    case defer d => exact hk undef (d :: b.defers) w' h
    case enter f as' => exact ⟨h.1, CallsIn.mono h.2 fun e w'' he => by cases e <;> first | exact hk _ b.defers _ he | exact he⟩
    case row f as' => exact ⟨h.1, RowsIn.mono h.2 fun e w'' he => hk _ b.defers _ he⟩
    case round l f t as' bd => exact ⟨h.1, RoundIn.mono h.2 fun e w'' he => by cases e <;> first | exact hk _ b.defers _ he | exact he⟩
    all_goals exact h
  | halt x w' => cases x <;> simp only [Oper.uponIn] at h ⊢ <;> exact h
theorem List.contains_eq_false_iff_not_mem' {l : List Nat} {x : Nat} : l.contains x = false ↔ x ∉ l := by
  rw [← Bool.not_eq_true, List.contains_iff_mem]
theorem draw_tail {rr : Option Nat} {id : Nat} {l : List Oper} {ds : List Done} {base : Nat} {s0 : S} {a : Act} {W : World} (hm : C.P.follows .mixedOrders = true) (hQ : ∀ c a w, ¬ Q (.panic c) a w) (hord : tailOk base l ds = true)
    (hst : ∀ (i : Nat) (o : Oper) (d : Done), (l.zip ds)[i]? = some (o, d) → StepOk C rr w0 ps T ρ Q l.toArray (base + i) o d (appS base (fun j => decide (j < i)) 0 (l.zip ds) s0)) (hI : Inv w0 ps T ρ s0 a W)
    (hK : ∀ a' W', Inv w0 ps T ρ (appS base (fun _ => true) 0 (l.zip ds) s0) a' W' → wpLR rr C.P l.toArray Q (l.drop ds.length) a' W') : wpR rr C.P (Code.region id l.toArray true) Q a W := by
  simp only [tailOk, Bool.and_eq_true, decide_eq_true_eq] at hord
  obtain ⟨⟨⟨hback, hlen⟩, hpairs⟩, hlast⟩ := hord
  rw [List.all_eq_true] at hlast
  have hanc : ∀ j i, i ∈ (ancL l []).getD j [] → Anc l i j := ancL_ok l l [] (by simp) (by simp)
  have hzip : ∀ i o, i < ds.length → l[i]? = some o → ∃ d, (l.zip ds)[i]? = some (o, d) := fun i o hid ho => by
    have h1 := (List.getElem?_eq_some_iff.1 ho).1
    exact ⟨ds[i]'(by omega), List.getElem?_zip_eq_some.2 ⟨ho, List.getElem?_eq_getElem _⟩⟩
  have hzl : ∀ i o d, (l.zip ds)[i]? = some (o, d) → l[i]? = some o := fun i o d h => (List.getElem?_zip_eq_some.1 h).1
  -- two operations of which neither has to come up ahead do not touch
  have hfree : ∀ {c : Nat → Bool} {i j : Nat} {o o' : Oper} {d d' : Done}, Closed l c → c i = false → c j = true → (l.zip ds)[i]? = some (o, d) → (l.zip ds)[j]? = some (o', d') → i < j → conflict base i j o d o' d' = false := fun {c i j o o' d d'} hc hi hj ho ho' hlt => by
    cases hq : conflict base i j o d o' d' with
    | false => rfl
    | true =>
      have := pairsOk_get hpairs (i := i) (j := j) ho ho' (by simpa using hlt) (by simpa using hq)
      have h2 := hc.anc (hanc _ _ (by simpa using this)) hj
      rw [hi] at h2; cases h2
  have hbefore : ∀ {i j : Nat} {o o' : Oper} {d d' : Done} {c : Nat → Bool}, (l.zip ds)[i]? = some (o, d) → (l.zip ds)[j]? = some (o', d') → j < i → (∀ p ∈ preds o, c p = true) → Closed l c → c j = false → conflict base j i o' d' o d = false := fun {i j o o' d d' c} ho ho' hlt hp hc hj => by
    cases hq : conflict base j i o' d' o d with
    | false => rfl
    | true =>
      have := hanc _ _ (by simpa using pairsOk_get hpairs (i := j) (j := i) ho' ho (by simpa using hlt) (by simpa using hq))
      exfalso
      have key : c j = true := by
        cases this with
        | one ho2 hp2 => rw [hzl _ _ _ ho] at ho2; cases ho2; exact hp _ hp2
        | more ho2 hq2 ha => rw [hzl _ _ _ ho] at ho2; cases ho2; exact hc.anc ha (hp _ hq2)
      rw [hj] at key; cases key
  let c0 : Array Bool → Nat → Bool := fun listed i => listed.getD i false
  have hagr : ∀ {listed : Array Bool} {i : Nat} {o : Oper} {d : Done}, (l.zip ds)[i]? = some (o, d) → listed.getD i false = false → (∀ p ∈ preds o, listed.getD p false = true) → Closed l (fun i => listed.getD i false) →
      AgreeAt d.slots ((base + i) :: d.names) ((base + i) :: d.snames) (appS base (fun i => listed.getD i false) 0 (l.zip ds) s0) (appS base (fun j => decide (j < i)) 0 (l.zip ds) s0) ∧ Same0 (appS base (fun i => listed.getD i false) 0 (l.zip ds) s0) (appS base (fun j => decide (j < i)) 0 (l.zip ds) s0) := by
    intro listed i o d hd hci hpreds hcl
    have hagree : AgreeAt d.slots ((base + i) :: d.names) ((base + i) :: d.snames) (appS base (fun i => listed.getD i false) 0 (l.zip ds) s0) (appS base (fun j => decide (j < i)) 0 (l.zip ds) s0) := by
      refine ⟨fun x hx => app_fr _ 0 s0 s0 rfl rfl fun j o' d' hj hx' => ?_, fun n hn => app_hp _ 0 s0 s0 rfl rfl fun j o' d' hj hx' => ?_, fun n hn => app_ln _ 0 s0 s0 rfl rfl fun j o' d' hj hx' => ?_⟩
      · rw [Nat.zero_add]
        rcases Nat.lt_trichotomy j i with hlt | rfl | hgt
        · have h3 : decide (j < i) = true := by simpa using hlt
          rw [h3]
          cases hq : listed.getD j false with
          | true => rfl
          | false =>
            have := hbefore (c := fun i => listed.getD i false) hd hj hlt hpreds hcl hq
            simp only [conflict, Bool.or_eq_false_iff] at this
            exact absurd (List.mem_append_left _ hx) (meets_no this.1.1.1.1.1 x hx')
        · rw [hci]; simp
        · have h3 : decide (j < i) = false := by simp; omega
          rw [h3]
          cases hq : listed.getD j false with
          | false => rfl
          | true =>
            have := hfree (c := fun i => listed.getD i false) hcl hci hq hd hj hgt
            simp only [conflict, Bool.or_eq_false_iff] at this
            exact absurd hx (meets_no this.1.1.1.1.2 x hx')
      · rw [Nat.zero_add] at hx' ⊢
        rcases Nat.lt_trichotomy j i with hlt | rfl | hgt
        · have h3 : decide (j < i) = true := by simpa using hlt
          rw [h3]
          cases hq : listed.getD j false with
          | true => rfl
          | false =>
            have := hbefore (c := fun i => listed.getD i false) hd hj hlt hpreds hcl hq
            simp only [conflict, Bool.or_eq_false_iff] at this
            refine absurd ?_ (meets_no this.1.1.1.2 n hx')
            rcases List.mem_cons.1 hn with rfl | hn
            · simp
            · simp [hn]
        · rw [hci]; simp
        · have h3 : decide (j < i) = false := by simp; omega
          rw [h3]
          cases hq : listed.getD j false with
          | false => rfl
          | true =>
            have := hfree (c := fun i => listed.getD i false) hcl hci hq hd hj hgt
            simp only [conflict, Bool.or_eq_false_iff] at this
            refine absurd ?_ (meets_no this.1.1.2 n hx')
            rcases List.mem_cons.1 hn with rfl | hn
            · simp
            · simp [hn]
      · rw [Nat.zero_add] at hx' ⊢
        rcases Nat.lt_trichotomy j i with hlt | rfl | hgt
        · have h3 : decide (j < i) = true := by simpa using hlt
          rw [h3]
          cases hq : listed.getD j false with
          | true => rfl
          | false =>
            have := hbefore (c := fun i => listed.getD i false) hd hj hlt hpreds hcl hq
            simp only [conflict, Bool.or_eq_false_iff] at this
            refine absurd ?_ (meets_no this.1.2 n hx')
            rcases List.mem_cons.1 hn with rfl | hn
            · simp
            · simp [hn]
        · rw [hci]; simp
        · have h3 : decide (j < i) = false := by simp; omega
          rw [h3]
          cases hq : listed.getD j false with
          | false => rfl
          | true =>
            have := hfree (c := fun i => listed.getD i false) hcl hci hq hd hj hgt
            simp only [conflict, Bool.or_eq_false_iff] at this
            refine absurd ?_ (meets_no this.2 n hx')
            rcases List.mem_cons.1 hn with rfl | hn
            · simp
            · simp [hn]
    have hsame : Same0 (appS base (fun i => listed.getD i false) 0 (l.zip ds) s0) (appS base (fun j => decide (j < i)) 0 (l.zip ds) s0) :=
      (appS_same0 ..).trans (appS_same0 ..).symm
    exact ⟨hagree, hsame⟩
  -- one more operation of the first ones
  have hadd : ∀ {listed : Array Bool} {i : Nat} {o : Oper} {d : Done}, (l.zip ds)[i]? = some (o, d) → listed.getD i false = false → i < listed.size → Closed l (fun i => listed.getD i false) →
      (appS base (fun i => listed.getD i false) 0 (l.zip ds) s0).eff (base + i) o.dst d.v d.new d.wr = appS base (fun j => (listed.setIfInBounds i true).getD j false) 0 (l.zip ds) s0 := by
    intro listed i o d hd hci hlt hcl
    have hmask : (fun j => (listed.setIfInBounds i true).getD j false) = upd (fun j => listed.getD j false) i := by
      funext j
      rw [getD_upd hlt]
      rfl
    rw [hmask, ← app_add hd hci fun j o' d' hj hcj hlt => ?_]
    have := hfree (c := fun i => listed.getD i false) hcl hci hcj hd hj hlt
    simp only [conflict, Bool.or_eq_false_iff] at this
    exact ⟨fun x hx hx' => meets_no this.1.1.1.1.1 x hx (List.mem_append_right _ hx'), fun n hn hn' => meets_no this.1.1.1.2 n hn (by simp [hn']), fun n hn hn' => meets_no this.1.2 n hn (by simp [nNames_mem hn'])⟩
  have happ : ∀ {c : Nat → Bool}, (∀ j, j < ds.length → c j = true) → appS base c 0 (l.zip ds) s0 = appS base (fun _ => true) 0 (l.zip ds) s0 := by
    intro c hc
    refine S.ext' ((appS_same0 ..).trans (appS_same0 ..).symm) (fun x => app_fr _ 0 s0 s0 rfl rfl fun j o' d' hj _ => ?_) (fun n => app_hp _ 0 s0 s0 rfl rfl fun j o' d' hj _ => ?_) fun n => app_ln _ 0 s0 s0 rfl rfl fun j o' d' hj _ => ?_
    all_goals
      rw [Nat.zero_add]
      have h9 := (List.getElem?_eq_some_iff.1 hj).1
      rw [List.length_zip] at h9
      exact hc j (by omega)
  -- what the last ones wait for
  obtain ⟨f, hf⟩ : ∃ f, ((List.range ds.length).find? fun i => !((ancL l []).getD ds.length []).contains i) = f := ⟨_, rfl⟩
  rw [hf] at hlast
  have hwait : ∀ {i k : Nat}, ds.length ≤ k → k < l.length → i < k → Anc l i k ∨ (f = some i ∧ mvOk l i k = true) := fun {i k} h1 h2 h3 => by
    have h4 := hlast (k - ds.length) (List.mem_range.2 (by omega))
    rw [List.all_eq_true] at h4
    have h5 := h4 i (List.mem_range.2 (by omega))
    rw [show ds.length + (k - ds.length) = k by omega] at h5
    simp only [Bool.or_eq_true, Bool.and_eq_true, beq_iff_eq, List.contains_iff_mem] at h5
    rcases h5 with h5 | h5
    · exact .inl (hanc _ _ h5)
    · exact .inr h5
  have hfm : ∀ {i : Nat}, f = some i → i < ds.length := fun {i} h => by
    rw [← hf] at h
    exact List.mem_range.1 (List.mem_of_find?_eq_some h)
  have hdrop : ∀ {k : Nat} {o : Oper}, l[k]? = some o → l.drop k = o :: l.drop (k + 1) := fun {k o} h => by
    rw [List.drop_eq_getElem_cons (List.getElem?_eq_some_iff.1 h).1, (List.getElem?_eq_some_iff.1 h).2]
  -- an operation whose ancestors have come up
  have hup : ∀ {listed : Array Bool} {i j : Nat} {o : Oper}, l[i]? = some o → (∀ p ∈ preds o, listed.getD p false = true) → Closed l (fun i => listed.getD i false) → Anc l j i → listed.getD j false = true := fun {listed i j o} hol hp hcl ha => by
    cases ha with
    | one ho2 hp2 => rw [hol] at ho2; cases ho2; exact hp _ hp2
    | more ho2 hq2 ha => rw [hol] at ho2; cases ho2; exact hcl.anc ha (hp _ hq2)
  refine wpIn_region_any hm (wpAnyIn_inv (fun listed b W => Closed l (fun i => listed.getD i false) ∧
    (((∀ k, ds.length ≤ k → k < l.length → listed.getD k false = false) ∧ Inv w0 ps T ρ (appS base (fun i => listed.getD i false) 0 (l.zip ds) s0) b W) ∨
     (∃ r, 0 < r ∧ (∀ k, k < l.length → (listed.getD k false = true ↔ k < ds.length + r)) ∧ wpLR rr C.P l.toArray Q (l.drop (ds.length + r)) b W) ∨
     (∃ r i0 o x y, 0 < r ∧ f = some i0 ∧ l[i0]? = some o ∧ moveOf o = some (x, y) ∧ (∀ k, k < l.length → (listed.getD k false = true ↔ (k < ds.length + r ∧ k ≠ i0))) ∧ wpLR rr C.P l.toArray Q (l.drop (ds.length + r)) (b.put (some y) (b.eval (.tmp x))) W))) ?_ ?_ l.toArray.size _ _ _ (by simp) ?_ ?_)
  · rintro listed b W i hs ⟨hcl, hI9⟩ hi
    obtain ⟨hu, o, ho, hpre⟩ := mem_ready.1 hi
    have hol : l[i]? = some o := by simpa using ho
    have hil : i < l.length := (List.getElem?_eq_some_iff.1 hol).1
    have hci : listed.getD i false = false := getD_both hu
    have hsz : i < listed.size := by rw [hs]; simpa using hil
    have hpreds : ∀ p ∈ preds o, listed.getD p false = true := fun p hp => by
      obtain ⟨e, he, hb, rfl⟩ := mem_preds.1 hp
      exact hpre e he hb
    have hcl2 : Closed l (fun j => (listed.setIfInBounds i true).getD j false) := fun j o' p hj hcj hp => by
      simp only [getD_upd hsz] at hcj ⊢
      by_cases e : p = i
      · rw [if_pos e]
      · rw [if_neg e]
        by_cases e2 : j = i
        · subst e2
          rw [hol] at hj; cases hj
          exact hpreds p hp
        · rw [if_neg e2] at hcj
          exact hcl j o' p hj hcj hp
    -- what is run, said of the operation in its place
    have run1 : ∀ {K : Act → World → Prop}, wpLR rr C.P l.toArray Q (l.drop i) b W → (∀ a' W', wpLR rr C.P l.toArray Q (l.drop (i + 1)) a' W' → K a' W') → wpOpIn (FW rr) 0 C.P l.toArray Q i K b W := fun {K} h hk => by
      unfold wpOpIn
      rw [ho]
      rw [hdrop hol] at h
      unfold wpLR wpListIn at h
      dsimp only
      split
      · rename_i hw
        rw [if_pos hw] at h
        exact Oper.wpIn_mono (fun a' W' q => hk a' W' q) h
      · rename_i hw
        rw [if_neg hw] at h
        exact ⟨h.1, hk _ _ h.2⟩
    -- the same with a move that is still to come
    have run2 : ∀ {i0 x y : Nat} {o0 : Oper} {K : Act → World → Prop}, l[i0]? = some o0 → moveOf o0 = some (x, y) → mvOk l i0 i = true → wpLR rr C.P l.toArray Q (l.drop i) (b.put (some y) (b.eval (.tmp x))) W → (∀ a' W', wpLR rr C.P l.toArray Q (l.drop (i + 1)) (a'.put (some y) (a'.eval (.tmp x))) W' → K a' W') → wpOpIn (FW rr) 0 C.P l.toArray Q i K b W := fun {i0 x y o0 K} h1 h2 h3 h hk => by
      unfold mvOk at h3
      rw [h1, hol] at h3
      dsimp only at h3
      rw [h2] at h3
      simp only [Bool.and_eq_true, Bool.not_eq_true', List.contains_eq_false_iff_not_mem'] at h3
      obtain ⟨⟨⟨g1, g2⟩, g3⟩, g4⟩ := h3
      have g2' : o.dst ≠ some y := fun e => g2 (by simp [e])
      have g3' : ∀ d, o.dst = some d → Operand.tmp x ≠ .tmp d := fun d e hh => by cases hh; exact g3 (by simp [e])
      unfold wpOpIn
      rw [ho]
      rw [hdrop hol] at h
      unfold wpLR wpListIn at h
      dsimp only
      rw [wanted_put (ops := l.toArray) o b (some y) _ (fun d e => by cases e; exact g1)] at h
      have hev : ∀ u, (b.put o.dst u).eval (.tmp x) = b.eval (.tmp x) := fun u => Act.eval_put g3'
      split
      · rename_i hw
        rw [if_pos hw] at h
        have h8 := wpIn_put g4 g1 g2' hQ h
        refine wpIn_keep g4 h8 fun u ds' W' q => hk _ _ ?_
        have : (({ b with defers := ds' } : Act).put o.dst u).eval (.tmp x) = b.eval (.tmp x) := (Act.eval_put (a := { b with defers := ds' }) g3').trans rfl
        rw [this]
        exact q
      · rename_i hw
        rw [if_neg hw] at h
        refine ⟨fun _ _ => trivial, hk _ _ ?_⟩
        rw [hev, ← Act.put_comm b _ undef fun d e => by cases e; exact g2']
        exact h.2
    have nextL : ∀ {k : Nat}, k < l.length → ((listed.setIfInBounds i true).getD k false = true ↔ (k = i ∨ listed.getD k false = true)) := fun {k} _ => by
      rw [getD_upd hsz]
      split <;> rename_i e <;> simp [e]
    rcases hI9 with ⟨hno, hinv⟩ | ⟨r, hr0, hls, hw9⟩ | ⟨r, i0, o0, x, y, hr0, hf0, ho0, hm0, hls, hw9⟩
    · rcases Nat.lt_or_ge i ds.length with hid | hid
      · -- one of the first ones
        obtain ⟨d, hd⟩ := hzip i o hid hol
        obtain ⟨hagree, hsame⟩ := hagr hd hci hpreds hcl
        have hfin := hst i o d hd _ b W (fun a' w' => Closed l (fun j => (listed.setIfInBounds i true).getD j false) ∧ (∀ k, ds.length ≤ k → k < l.length → (listed.setIfInBounds i true).getD k false = false) ∧ Inv w0 ps T ρ (appS base (fun j => (listed.setIfInBounds i true).getD j false) 0 (l.zip ds) s0) a' w') hsame hagree hinv fun a' W' h => by
          refine ⟨hcl2, fun k h1 h2 => ?_, by rw [← hadd hd hci hsz hcl]; exact h⟩
          rw [getD_upd hsz, if_neg (by omega)]
          exact hno k h1 h2
        unfold wpOpIn
        rw [ho]
        dsimp only
        split
        · rename_i hw; rw [if_pos hw] at hfin; exact Oper.wpIn_mono (fun _ _ h => ⟨h.1, .inl h.2⟩) hfin
        · rename_i hw; rw [if_neg hw] at hfin; exact ⟨fun _ _ => trivial, hfin.1, .inl hfin.2⟩
      · -- the first of the last ones
        have him : i = ds.length := by
          rcases Nat.lt_or_ge ds.length i with h | h
          · exfalso
            rcases hwait hid hil h with ha | ⟨ha, _⟩
            · have := hup hol hpreds hcl ha
              rw [hno _ (Nat.le_refl _) (by omega)] at this
              cases this
            · exact absurd (hfm ha) (by omega)
          · omega
        subst him
        have hothers : ∀ j, j < ds.length → f ≠ some j → listed.getD j false = true := fun j hj hne => by
          rcases hwait hid hil hj with ha | ⟨ha, _⟩
          · exact hup hol hpreds hcl ha
          · exact absurd ha hne
        have hset : ∀ k, k < l.length → ((listed.setIfInBounds ds.length true).getD k false = true ↔ (k = ds.length ∨ listed.getD k false = true)) := fun k hk => nextL hk
        by_cases hall9 : ∀ j, j < ds.length → listed.getD j false = true
        · rw [happ hall9] at hinv
          refine run1 (hK _ _ hinv) fun a' W' q => ⟨hcl2, .inr (.inl ⟨1, by omega, fun k hk => ?_, q⟩)⟩
          rw [hset k hk]
          constructor
          · rintro (h | h)
            · omega
            · rcases Nat.lt_or_ge k ds.length with h2 | h2
              · omega
              · rw [hno k h2 hk] at h; cases h
          · intro h
            rcases Nat.lt_or_ge k ds.length with h2 | h2
            · exact .inr (hall9 k h2)
            · exact .inl (by omega)
        · obtain ⟨i0, hi0⟩ : ∃ i0, i0 < ds.length ∧ listed.getD i0 false = false := by
            apply Classical.byContradiction
            intro hh
            refine hall9 fun j hj => ?_
            cases hb : listed.getD j false with
            | true => rfl
            | false => exact absurd ⟨j, hj, hb⟩ hh
          have hf0 : f = some i0 := by
            apply Classical.byContradiction
            intro hh
            have := hothers i0 hi0.1 hh
            rw [hi0.2] at this; cases this
          have hil0 : i0 < l.length := by omega
          have ho0 : l[i0]? = some l[i0] := List.getElem?_eq_getElem hil0
          obtain ⟨d0, hd0⟩ := hzip i0 _ hi0.1 ho0
          have hwn : mvOk l i0 ds.length = true := by
            rcases hwait hid hil hi0.1 with ha | ⟨_, ha⟩
            · have := hup hol hpreds hcl ha
              rw [hi0.2] at this; cases this
            · exact ha
          obtain ⟨x, y, hm0⟩ : ∃ x y, moveOf l[i0] = some (x, y) := by
            have h3 := hwn
            unfold mvOk at h3
            rw [ho0, hol] at h3
            dsimp only at h3
            cases hq : moveOf l[i0] with
            | none => rw [hq] at h3; cases h3
            | some e => exact ⟨e.1, e.2, rfl⟩
          have hpr0 : ∀ p ∈ preds l[i0], listed.getD p false = true := fun p hp => by
            have := backOk_get hback ho0 hp
            refine hothers p (by omega) fun e => ?_
            rw [hf0] at e
            cases e
            omega
          obtain ⟨hagree, hsame⟩ := hagr hd0 hi0.2 hpr0 hcl
          have hsz0 : i0 < listed.size := by rw [hs]; simpa using hil0
          have hfin := hst i0 _ d0 hd0 _ b W (fun a' W' => wpLR rr C.P l.toArray Q (l.drop ds.length) a' W') hsame hagree hinv fun a' W' h => by
            rw [hadd hd0 hi0.2 hsz0 hcl, happ fun j hj => ?_] at h
            · exact hK _ _ h
            · rw [getD_upd hsz0]
              split
              · rfl
              · rename_i e
                exact hothers j hj fun e2 => e (by rw [hf0] at e2; cases e2; rfl)
          rw [if_pos (moveOf_wanted hm0 _), wpIn_move hm0] at hfin
          refine run2 ho0 hm0 hwn hfin fun a' W' q => ⟨hcl2, .inr (.inr ⟨1, i0, _, x, y, by omega, hf0, ho0, hm0, fun k hk => ?_, q⟩)⟩
          rw [hset k hk]
          constructor
          · rintro (h | h)
            · omega
            · rcases Nat.lt_or_ge k ds.length with h2 | h2
              · exact ⟨by omega, fun e => by rw [e, hi0.2] at h; cases h⟩
              · rw [hno k h2 hk] at h; cases h
          · rintro ⟨h, hne⟩
            rcases Nat.lt_or_ge k ds.length with h2 | h2
            · exact .inr (hothers k h2 fun e => hne (by rw [hf0] at e; cases e; rfl))
            · exact .inl (by omega)
    · -- among the last ones
      have hir : i = ds.length + r := by
        have h1 : ¬ i < ds.length + r := fun h => by rw [(hls i hil).2 h] at hci; cases hci
        rcases Nat.lt_or_ge (ds.length + r) i with h | h
        · exfalso
          rcases hwait (by omega) hil h with ha | ⟨ha, _⟩
          · have := (hls _ (by omega)).1 (hup hol hpreds hcl ha)
            omega
          · exact absurd (hfm ha) (by omega)
        · omega
      subst hir
      refine run1 hw9 fun a' W' q => ⟨hcl2, .inr (.inl ⟨r + 1, by omega, fun k hk => ?_, q⟩)⟩
      rw [nextL hk, hls k hk]
      omega
    · by_cases hi0 : i = i0
      · subst hi0
        rw [ho0] at hol
        cases hol
        unfold wpOpIn
        rw [ho]
        dsimp only
        rw [if_pos (moveOf_wanted hm0 _), wpIn_move hm0]
        refine ⟨hcl2, .inr (.inl ⟨r, hr0, fun k hk => ?_, hw9⟩)⟩
        rw [nextL hk, hls k hk]
        have := hfm hf0
        omega
      · have hir : i = ds.length + r := by
          have h1 : ¬ i < ds.length + r := fun h => by rw [(hls i hil).2 ⟨h, hi0⟩] at hci; cases hci
          rcases Nat.lt_or_ge (ds.length + r) i with h | h
          · exfalso
            rcases hwait (by omega) hil h with ha | ⟨ha, _⟩
            · have := (hls _ (by omega)).1 (hup hol hpreds hcl ha)
              omega
            · exact absurd (hfm ha) (by omega)
          · omega
        subst hir
        have hi0m := hfm hf0
        have hwn : mvOk l i0 (ds.length + r) = true := by
          rcases hwait (by omega) hil (by omega : i0 < ds.length + r) with ha | ⟨_, ha⟩
          · have := (hls _ (by omega)).1 (hup hol hpreds hcl ha)
            omega
          · exact ha
        refine run2 ho0 hm0 hwn hw9 fun a' W' q => ⟨hcl2, .inr (.inr ⟨r + 1, i0, o0, x, y, by omega, hf0, ho0, hm0, fun k hk => ?_, q⟩)⟩
        rw [nextL hk, hls k hk]
        omega
  · rintro listed b W hs ⟨hcl, hI9⟩ hr
    have hall : ∀ i, i < l.length → listed.getD i false = true := by
      intro i
      induction i using Nat.strongRecOn with
      | ind i ih =>
        intro hi
        cases hb : listed.getD i false with
        | true => rfl
        | false =>
          exfalso
          have hm : i ∈ Region.ready .any l.toArray listed := by
            refine mem_ready.2 ⟨getD_in (by rw [hs]; simpa using hi) hb, l[i], by simp [hi], fun e he hbd => ?_⟩
            have := backOk_get hback (List.getElem?_eq_getElem hi) (mem_preds.2 ⟨e, he, hbd, rfl⟩)
            rw [Nat.zero_add] at this
            exact ih e.on this (by omega)
          rw [hr] at hm
          cases hm
    rcases hI9 with ⟨hno, _⟩ | ⟨r, _, hls, hq⟩ | ⟨r, i0, o0, x, y, _, hf0, ho0, _, hls, _⟩
    · have := hall ds.length hlen
      rw [hno _ (Nat.le_refl _) hlen] at this; cases this
    · rw [List.drop_of_length_le] at hq
      · exact hq
      · rcases Nat.lt_or_ge (ds.length + r) l.length with h | h
        · have := (hls _ h).1 (hall _ h)
          omega
        · exact h
    · have h1 := (List.getElem?_eq_some_iff.1 ho0).1
      exact absurd rfl ((hls _ h1).1 (hall _ h1)).2
  · rw [Array.toList_replicate]; exact Nat.le_trans (List.length_filter_le _ _) (by simp)
  · have hz : (fun i => (Array.replicate l.toArray.size false).getD i false) = fun _ => false := funext fun i => getD_replicate_false _ _
    refine ⟨(by rw [hz]; exact fun j o p _ hc _ => nomatch hc), .inl ⟨fun k _ _ => getD_replicate_false _ _, ?_⟩⟩
    have : appS base (fun i => (Array.replicate l.toArray.size false).getD i false) 0 (l.zip ds) s0 = s0 := by
      rw [hz, app_none]
    rw [this]
    exact hI.step ((Below.refl _ _).drew)
end
end SX
end Go.Proofs.Ytmkigejhgpoleaa
