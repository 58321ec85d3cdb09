/-
  A symbolic executor, sixth part: what a tree says; a loop's head.
-/
import Derived.Test.YtmkigejhgpoleaaSx5
namespace Go.Proofs.Ytmkigejhgpoleaa
set_option linter.unusedSimpArgs false
set_option linter.unusedVariables false
open Go Go.RowKit
namespace SX

mutual
/-- what is to be shown of a tree -/
def VC (C : Cx) (w0 : Org) (ps : List (World → Prop)) (T0 : List TF) (R : Ending → World → Prop) : List (List Value → Prop) → List Value → Tree → Prop
  | L, ρ, .df q args sh t => ∃ v, (∀ α, q.rel C ρ α args v) ∧ sh.fit v = true ∧ VC C w0 ps T0 R L (ρ ++ [v]) t
  | L, ρ, .br i p t e => ∃ b, p.foldl comp (ρ.getD i undef) = .bool b ∧ (b = true → VC C w0 ps T0 R L ρ t) ∧ (b = false → VC C w0 ps T0 R L ρ e)
  | L, ρ, .sp i p l => (∃ j : Nat, j < l.length ∧ p.foldl comp (ρ.getD i undef) = .int .i64 j) ∧ VCs C w0 ps T0 R L ρ (p.foldl comp (ρ.getD i undef)) 0 l
  | L, ρ, .ret v hp stk => ∀ α W, Fms ρ α stk T0 → (∀ (n : Nat) (b : Blk), hp[n]? = some (some b) → b.rowOk ρ α n) → St w0 (chs ρ α 0 hp) [] (exs w0 ρ α 0 hp ++ ps) W → R (.returned (v.den ρ α)) W
  | L, ρ, .loop vals shs t => ∃ (I : List Value → Prop) (μ : List Value → Nat), (∀ α, I (denL ρ α vals)) ∧ ∀ xs, Sh.fitL shs xs = true → I xs → VC C w0 ps T0 R (L ++ [fun ys => I ys ∧ μ ys < μ xs]) (ρ ++ xs) t
  | L, ρ, .again l vals => ∀ α, (L.getD l fun _ => False) (denL ρ α vals)
  | _, _, .bad _ _ => False
def VCs (C : Cx) (w0 : Org) (ps : List (World → Prop)) (T0 : List TF) (R : Ending → World → Prop) : List (List Value → Prop) → List Value → Value → Nat → List Tree → Prop
  | _, _, _, _, [] => True
  | L, ρ, u, j, t :: l => (u = .int .i64 (j : Int) → VC C w0 ps T0 R L ρ t) ∧ VCs C w0 ps T0 R L ρ u (j + 1) l
end
theorem VCs_at {C : Cx} {w0 : Org} {ps : List (World → Prop)} {T0 : List TF} {R : Ending → World → Prop} {L : List (List Value → Prop)} {ρ : List Value} {u : Value} : ∀ {l : List Tree} {k j : Nat} {t : Tree}, VCs C w0 ps T0 R L ρ u k l → l[j]? = some t → u = .int .i64 ((k + j : Nat) : Int) → VC C w0 ps T0 R L ρ t
  | [], _, _, _, _, h, _ => by simp at h
  | t' :: l, k, 0, t, h, ht, hu => by
    obtain rfl : t' = t := by simpa using ht
    unfold VCs at h
    exact h.1 hu
  | t' :: l, k, j + 1, t, h, ht, hu => by
    unfold VCs at h
    exact VCs_at (k := k + 1) (j := j) h.2 (by simpa using ht) (by rw [hu]; congr 2; omega)

/-- one frame says no more than the other one -/
def FrLe (f g : List (Option V)) : Prop := f.length = g.length ∧ ∀ (d : Nat) (v : V), f[d]? = some (some v) → g[d]? = some (some v)
def StkLe : List (List (Option V)) → List (List (Option V)) → Prop
  | [], [] => True
  | a :: l, b :: m => FrLe a b ∧ StkLe l m
  | _, _ => False
structure Match (an : Ann) (ws : List Nat) (s0 s : S) : Prop where
  fr : s0.fr.length = s.fr.length ∧ ∀ (d : Nat) (v : V), skipS an ws d = false → s0.fr[d]? = some (some v) → s.fr[d]? = some (some v)
  stk : StkLe s0.stk s.stk
  hp : ∀ (n : Nat) (b : Blk), s0.hp[n]? = some (some b) → n ∉ annDead an s0 → ∃ b', s.hp[n]? = some (some b') ∧ b'.t = b.t ∧ b'.k = b.k ∧ b'.c.length = b.c.length ∧ ∀ (k : Nat) (v : V), skipC an n k = false → b.c[k]? = some v → b'.c[k]? = some v
  ln : ∀ (n : Nat) (b : Blk), s0.ln[n]? = some (some b) → s.ln[n]? = some (some b)
  live : ∀ (n : Nat) (b : Blk), s0.hp[n]? = some (some b) → lv s0.ln n = true
  lps : s0.lps = s.lps
  lpl : ∀ q ∈ s0.lps, lv s0.ln q.1 = true

theorem FrLe.refl (f : List (Option V)) : FrLe f f := ⟨rfl, fun _ _ h => h⟩
theorem StkLe.refl : ∀ l : List (List (Option V)), StkLe l l
  | [] => trivial
  | a :: l => ⟨.refl a, .refl l⟩
theorem Match.refl (an : Ann) (ws : List Nat) (s : S) (hl : ∀ (n : Nat) (b : Blk), s.hp[n]? = some (some b) → lv s.ln n = true) (hlp : ∀ q ∈ s.lps, lv s.ln q.1 = true) : Match an ws s s := ⟨⟨rfl, fun _ _ _ h => h⟩, .refl _, fun n b h _ => ⟨b, h, rfl, rfl, rfl, fun _ _ _ h => h⟩, fun _ _ h => h, hl, rfl, hlp⟩

theorem eqbFr_le {skip : Nat → Bool} : ∀ {f g : List (Option V)} {k : Nat}, eqbFr skip k f g = true → f.length = g.length ∧ ∀ (d : Nat) (v : V), skip (k + d) = false → f[d]? = some (some v) → g[d]? = some (some v)
  | [], [], _, _ => ⟨rfl, fun d v _ h => by simp at h⟩
  | [], _ :: _, _, h => by simp [eqbFr] at h
  | _ :: _, [], _, h => by simp [eqbFr] at h
  | a :: l, b :: m, k, h => by
    simp only [eqbFr, Bool.and_eq_true, Bool.or_eq_true] at h
    obtain ⟨h1, h2⟩ := eqbFr_le h.2
    refine ⟨by simp [h1], fun d v hd hv => ?_⟩
    cases d with
    | zero =>
      simp at hv
      subst hv
      rcases h.1 with h3 | h3
      · rw [Nat.add_zero] at hd; rw [hd] at h3; cases h3
      · cases b with
        | none => simp [eqbO] at h3
        | some u => rw [V.eqb_eq v u h3]; rfl
    | succ d =>
      simpa using h2 d v (by rwa [show k + 1 + d = k + (d + 1) by omega]) (by simpa using hv)
theorem eqbS_le : ∀ {l m : List (List (Option V))}, eqbS l m = true → StkLe l m
  | [], [], _ => trivial
  | [], _ :: _, h => by simp [eqbS] at h
  | _ :: _, [], h => by simp [eqbS] at h
  | a :: l, b :: m, h => by
    simp only [eqbS, Bool.and_eq_true] at h
    obtain ⟨h1, h2⟩ := eqbFr_le h.1
    exact ⟨⟨h1, fun d v hv => h2 d v rfl hv⟩, eqbS_le h.2⟩
theorem eqbB_le {skip : Nat → Nat → Bool} {n : Nat} : ∀ {l m : List V} {k : Nat}, eqbB skip n k l m = true → m.length = l.length ∧ ∀ (d : Nat) (v : V), skip n (k + d) = false → l[d]? = some v → m[d]? = some v
  | [], [], _, _ => ⟨rfl, fun d v _ h => by simp at h⟩
  | [], _ :: _, _, h => by simp [eqbB] at h
  | _ :: _, [], _, h => by simp [eqbB] at h
  | a :: l, b :: m, k, h => by
    simp only [eqbB, Bool.and_eq_true, Bool.or_eq_true] at h
    obtain ⟨h1, h2⟩ := eqbB_le h.2
    refine ⟨by simp [h1], fun d v hd hv => ?_⟩
    cases d with
    | zero =>
      simp at hv
      subst hv
      rcases h.1 with h3 | h3
      · rw [Nat.add_zero] at hd; rw [hd] at h3; cases h3
      · rw [V.eqb_eq _ _ h3]; rfl
    | succ d =>
      simpa using h2 d v (by rwa [show k + 1 + d = k + (d + 1) by omega]) (by simpa using hv)
theorem eqbH_le {dead : List Nat} {skip : Nat → Nat → Bool} : ∀ {l m : List (Option Blk)} {k : Nat}, eqbH dead skip k l m = true → ∀ (n : Nat) (b : Blk), l[n]? = some (some b) → k + n ∉ dead → ∃ b', m[n]? = some (some b') ∧ b'.t = b.t ∧ b'.k = b.k ∧ b'.c.length = b.c.length ∧ ∀ (j : Nat) (v : V), skip (k + n) j = false → b.c[j]? = some v → b'.c[j]? = some v
  | [], _, _, _, n, b, hn, _ => by simp at hn
  | none :: l, [], k, h, n, b, hn, _ => by simp [eqbH] at h
  | some _ :: l, [], k, h, n, b, hn, _ => by simp [eqbH] at h
  | some _ :: l, none :: m, k, h, n, b, hn, _ => by simp [eqbH] at h
  | none :: l, c :: m, k, h, n, b, hn, hd => by
    simp only [eqbH] at h
    cases n with
    | zero => simp at hn
    | succ n =>
      obtain ⟨b', h1, h2⟩ := eqbH_le h n b (by simpa using hn) (by rwa [show k + 1 + n = k + (n + 1) by omega])
      exact ⟨b', by simpa using h1, by rwa [show k + 1 + n = k + (n + 1) by omega] at h2⟩
  | some a :: l, some c :: m, k, h, n, b, hn, hd => by
    simp only [eqbH, Bool.and_eq_true, Bool.or_eq_true, beq_iff_eq, decide_eq_true_eq] at h
    cases n with
    | zero =>
      simp at hn
      subst hn
      have h := h.1.resolve_left fun hm => hd (by simpa using hm)
      obtain ⟨h3, h4⟩ := eqbB_le h.2
      exact ⟨c, rfl, h.1.1.symm, h.1.2.symm, h3, fun j v hj hv => h4 j v (by rwa [Nat.zero_add]) hv⟩
    | succ n =>
      obtain ⟨b', h1, h2⟩ := eqbH_le h.2 n b (by simpa using hn) (by rwa [show k + 1 + n = k + (n + 1) by omega])
      exact ⟨b', by simpa using h1, by rwa [show k + 1 + n = k + (n + 1) by omega] at h2⟩

theorem cmB_eq {b b' : Blk} (h : cmB b = some b') : b = b' ∧ (b'.k = .cells ∨ ∃ k ag, b'.k = .mp k ag) := by
  unfold cmB at h
  split at h
  · rename_i hk
    obtain rfl : b = b' := by simpa using h
    exact ⟨rfl, .inl hk⟩
  · rename_i k ag hk
    obtain rfl : b = b' := by simpa using h
    exact ⟨rfl, .inr ⟨k, ag, hk⟩⟩
  · cases h
theorem cellsB_eq {b b' : Blk} (h : cellsB b = some b') : b = b' ∧ b'.k = .cells := by
  unfold cellsB at h
  split at h
  · rename_i hk
    obtain rfl : b = b' := by simpa using h
    exact ⟨rfl, hk⟩
  · cases h
theorem eqbH_same {l m : List (Option Blk)} (h : eqbH [] noSkip 0 l m = true) {n : Nat} {b : Blk} (hn : l[n]? = some (some b)) : m[n]? = some (some b) := by
  obtain ⟨b', h1, h2, h3, h4, h5⟩ := eqbH_le h n b hn (by simp)
  have : b'.c = b.c := by
    apply List.ext_getElem?
    intro j
    cases hq : b.c[j]? with
    | some u => exact h5 j u rfl hq
    | none => rw [List.getElem?_eq_none_iff] at hq ⊢; omega
  obtain ⟨c, t, k⟩ := b
  obtain ⟨c', t', k'⟩ := b'
  simp only at h2 h3 this
  subst h2; subst h3; subst this
  exact h1
theorem mapM_spec {β γ : Type} {f : β → Option γ} : ∀ {xs : List β} {ys : List γ}, xs.mapM f = some ys → ys.length = xs.length ∧ ∀ (j : Nat) (x : β), xs[j]? = some x → ∃ v, ys[j]? = some v ∧ f x = some v := by
  intro xs
  induction xs with
  | nil => intro ys h; simp at h; subst h; exact ⟨rfl, fun j x hx => by simp at hx⟩
  | cons x xs ih =>
    intro ys h
    simp only [List.mapM_cons, Option.bind_eq_bind, Option.bind_eq_some_iff] at h
    obtain ⟨v, hv, vs, hvs, h⟩ := h
    simp at h
    subst h
    obtain ⟨h1, h2⟩ := ih hvs
    refine ⟨by simp [h1], fun j y hy => ?_⟩
    cases j with
    | zero => simp at hy; subst hy; exact ⟨v, rfl, hv⟩
    | succ j => simpa using h2 j y (by simpa using hy)
theorem annVals_spec {an : Ann} {s : S} {vals : List V} (h : annVals an s = some vals) : vals.length = an.pos.length ∧
    ∀ (j : Nat) (p : Pos) (hk : HK), an.pos[j]? = some (p, hk) → ∃ u v, p.get s = some u ∧ heldOf s hk u = some v ∧ vals[j]? = some v := by
  obtain ⟨h1, h2⟩ := mapM_spec h
  refine ⟨h1, fun j p hk hj => ?_⟩
  obtain ⟨v, hv, hf⟩ := h2 j _ hj
  obtain ⟨u, hu, hh⟩ := Option.bind_eq_some_iff.1 hf
  exact ⟨u, v, hu, hh, hv⟩
theorem posAt_spec {an : Ann} {p : Pos} {j : Nat} (h : posAt an p = some j) : ∃ hk, an.pos[j]? = some (p, hk) := by
  unfold posAt at h
  obtain ⟨hlt, h2, _⟩ := List.findIdx?_eq_some_iff_getElem.1 h
  have h2 : (an.pos[j]).1 = p := by simpa using h2
  exact ⟨(an.pos[j]).2, by rw [List.getElem?_eq_getElem hlt, ← h2]⟩
theorem posV_spec {an : Ann} {m base : Nat} {p : Pos} {u : V} (h : posV an m base p = some u) : ∃ (j : Nat) (hk : HK), an.pos[j]? = some (p, hk) ∧ u = hk.v m base j := by
  obtain ⟨j, hj, h2⟩ := Option.bind_eq_some_iff.1 h
  obtain ⟨hk, hp⟩ := posAt_spec hj
  rw [hp] at h2
  exact ⟨j, hk, hp, by simpa using h2.symm⟩
theorem held_one {s : S} {u v : V} (h : heldOf s .one u = some v) : v = u ∧ u.one s.sh = true := by
  have h : (if u.one s.sh then some u else none) = some v := by cases u <;> simpa [heldOf] using h
  split at h
  · rename_i h1
    exact ⟨by simpa using h.symm, h1⟩
  · cases h
theorem held_ag {s : S} {n : Nat} {u v : V} (h : heldOf s (.ag n) u = some v) : ∃ cs, u = .a cs ∧ cs.length = n ∧ vones s.sh cs = true ∧ v = .a cs := by
  cases u <;> simp [heldOf] at h
  exact ⟨_, rfl, h.1.1, h.1.2, h.2.symm⟩
theorem join_some {α : Type} {x : Option (Option α)} {b : α} (h : x.join = some b) : x = some (some b) := by
  cases x with
  | none => simp at h
  | some o => simp at h; rw [h]
theorem held_any {s : S} {u v : V} (h : heldOf s .any u = some v) : v = u := by
  cases u <;> simp [heldOf] at h <;> exact h.symm
theorem held_ext {s : S} {sz : Nat} {u v : V} (h : heldOf s (.ext sz) u = some v) : ∃ m b, u = .row m ∧ s.hp[m]? = some (some b) ∧ b.k = .ext sz ∧ v = .cat b.c := by
  cases u <;> simp only [heldOf, reduceCtorEq] at h
  split at h
  · rename_i b hb
    split at h
    · rename_i hk
      exact ⟨_, b, rfl, join_some hb, hk, by simpa using h.symm⟩
    · cases h
  · cases h
theorem held_row {s : S} {sz : Nat} {e : TypeId} {u v : V} (h : heldOf s (.row sz e) u = some v) : ∃ m b, u = .row m ∧ s.hp[m]? = some (some b) ∧ b.k = .row sz ∧ b.t = e ∧ v = .cat b.c := by
  cases u <;> simp only [heldOf, reduceCtorEq] at h
  split at h
  · rename_i b hb
    split at h
    · rename_i hk
      exact ⟨_, b, rfl, join_some hb, hk.1, hk.2, by simpa using h.symm⟩
    · cases h
  · cases h
theorem posV_none {an : Ann} {m base : Nat} {p : Pos} (h : posV an m base p = none) : (posAt an p).isSome = false := by
  cases hq : posAt an p with
  | none => rfl
  | some j =>
    obtain ⟨hk, hp⟩ := posAt_spec hq
    simp [posV, hq, hp] at h

section
variable {C : Cx} {w0 : Org} {ps : List (World → Prop)} {T : List TF} {ρ ρ0 : List Value} {s s0 : S} {a : Act} {W : World} {α : Nat → AV}
theorem look_den (hg : Good ρ s) (hf : Fm ρ α s.fr a.tmps) {d : Nat} {v : V} (h : lookFr s d = some v) : a.tmps[d]? = some (v.den ρ α) := by
  have h1 : s.ev (.tmp d) = some v := h
  have h2 := ev_den hg hf h1
  unfold lookFr at h
  cases hq : s.fr[d]? with
  | none => simp [hq, lookV] at h
  | some o =>
    have hlt : d < a.tmps.size := by rw [hf.1]; exact (List.getElem?_eq_some_iff.1 hq).1
    rw [← h2]
    simp [Act.eval, Array.getD_eq_getD_getElem?, hlt]
theorem den_pre (hp : ρ0 <+: ρ) {hp0 : List (Option Blk)} {x : V} (hx : x.wf hp0 ρ0.length = true) : x.den ρ α = x.den ρ0 α := V.den_eq (hp := hp0) (fun _ _ => rfl) hp x hx
theorem FrLe.fm {f g : List (Option V)} {tmps : Array Value} (h : FrLe f g) (hf : Fm ρ α g tmps) : Fm ρ α f tmps := ⟨hf.1.trans h.1.symm, fun d v hv => hf.2 d v (h.2 d v hv)⟩
theorem StkLe.fms : ∀ {l m : List (List (Option V))} {T : List TF}, StkLe l m → Fms ρ α m T → Fms ρ α l T
  | [], [], _, _, h => h
  | a :: l, b :: m, [], _, h => h
  | a :: l, b :: m, t :: T, h, hf => ⟨h.1.fm hf.1, StkLe.fms h.2 hf.2⟩
  | [], _ :: _, _, h, _ => h.elim
  | _ :: _, [], _, h, _ => h.elim
theorem x_den {xs : List Value} {j : Nat} (hj : j < xs.length) : (V.x (ρ0.length + j) []).den (ρ0 ++ xs) α = xs[j] := by
  simp [V.den, List.getD_eq_getElem?_getD, hj]
theorem ch_of {ρ ρ' : List Value} {α : Nat → AV} {b b' : Blk} {k : Nat} (h2 : b'.t = b.t) (h4 : b'.k = b.k) (h3 : denL ρ' α b.c = denL ρ α b'.c) : b.ch ρ' α k = b'.ch ρ α k := by
  unfold Blk.ch Blk.xs
  rw [h2, h4, h3]
theorem rowOk_of {ρ ρ' : List Value} {α : Nat → AV} {b b' : Blk} {k : Nat} (h4 : b'.k = b.k) (h3 : denL ρ' α b.c = denL ρ α b'.c) : b.rowOk ρ' α k ↔ b'.rowOk ρ α k := by
  unfold Blk.rowOk Blk.xs
  rw [h4, h3]
theorem chs_sub {ρ ρ' : List Value} {α : Nat → AV} : ∀ {l m : List (Option Blk)} {k : Nat}, (∀ (n : Nat) (b : Blk), l[n]? = some (some b) → ∃ b', m[n]? = some (some b') ∧ b'.t = b.t ∧ b'.k = b.k ∧ denL ρ' α b.c = denL ρ α b'.c) → List.Sublist (chs ρ' α k l) (chs ρ α k m)
  | [], _, _, _ => by simp [chs]
  | none :: l, [], k, h => by
    have ih : List.Sublist (chs ρ' α (k + 1) l) (chs ρ α (k + 1) []) := chs_sub fun n b hb => by
      obtain ⟨b', h1, _⟩ := h (n + 1) b (by simpa using hb)
      simp at h1
    simpa [chs] using ih
  | some b :: l, [], k, h => by
    obtain ⟨b', h1, _⟩ := h 0 b rfl
    simp at h1
  | none :: l, c :: m, k, h => by
    have ih : List.Sublist (chs ρ' α (k + 1) l) (chs ρ α (k + 1) m) := chs_sub fun n b hb => by simpa using h (n + 1) b (by simpa using hb)
    cases c with
    | none => simpa [chs] using ih
    | some c =>
      unfold chs
      cases c.ch ρ α k with
      | none => simpa using ih
      | some e => simpa using ih.cons _
  | some b :: l, c :: m, k, h => by
    have ih : List.Sublist (chs ρ' α (k + 1) l) (chs ρ α (k + 1) m) := chs_sub fun n b hb => by simpa using h (n + 1) b (by simpa using hb)
    obtain ⟨b', h1, h2, h4, h3⟩ := h 0 b rfl
    simp at h1
    subst h1
    unfold chs
    rw [ch_of h2 h4 h3]
    exact (List.Sublist.refl _).append ih

theorem fm_back (hp : ρ0 <+: ρ) {f : List (Option V)} {tmps : Array Value} {hp0 : List (Option Blk)} (h : Fm ρ α f tmps) (hw : WfF hp0 ρ0.length f) : Fm ρ0 α f tmps :=
  ⟨h.1, fun d v hv => by rw [h.2 d v hv, den_pre hp (hw v (List.mem_of_getElem? hv))]⟩
theorem fms_back (hp : ρ0 <+: ρ) {hp0 : List (Option Blk)} : ∀ {l : List (List (Option V))} {T : List TF}, Fms ρ α l T → (∀ f ∈ l, WfF hp0 ρ0.length f) → Fms ρ0 α l T
  | [], [], h, _ => trivial
  | [], _ :: _, h, _ => h
  | _ :: _, [], h, _ => h
  | f :: l, t :: T, h, hw => ⟨fm_back hp h.1 (hw f (List.mem_cons_self ..)), fms_back hp h.2 fun g hg => hw g (List.mem_cons_of_mem _ hg)⟩
theorem chs_inv {ρ : List Value} {α : Nat → AV} : ∀ {hp : List (Option Blk)} {k : Nat} {e : Ch}, e ∈ chs ρ α k hp → ∃ (n : Nat) (b : Blk), hp[n]? = some (some b) ∧ b.ch ρ α (k + n) = some e
  | [], _, _, h => by simp [chs] at h
  | none :: l, k, e, h => by
    unfold chs at h
    obtain ⟨n, b, h1, h2⟩ := chs_inv h
    exact ⟨n + 1, b, by simpa using h1, by rwa [show k + (n + 1) = k + 1 + n by omega]⟩
  | some b :: l, k, e, h => by
    unfold chs at h
    rcases List.mem_append.1 h with h | h
    · exact ⟨0, b, rfl, by simpa [Option.mem_toList] using h⟩
    · obtain ⟨n, b', h1, h2⟩ := chs_inv h
      exact ⟨n + 1, b', by simpa using h1, by rwa [show k + (n + 1) = k + 1 + n by omega]⟩
theorem chs_nodup {ρ : List Value} {α : Nat → AV} : ∀ {hp : List (Option Blk)} {k : Nat}, (∀ (n1 n2 : Nat) (b1 b2 : Blk) (e1 e2 : Ch), n1 < n2 → hp[n1]? = some (some b1) → b1.ch ρ α (k + n1) = some e1 → hp[n2]? = some (some b2) → b2.ch ρ α (k + n2) = some e2 → e1.id ≠ e2.id) → ((chs ρ α k hp).map (·.id)).Nodup
  | [], _, _ => by simp [chs]
  | none :: l, k, h => by
    unfold chs
    exact chs_nodup fun n1 n2 b1 b2 e1 e2 hlt h1 h2 h3 h4 => h (n1 + 1) (n2 + 1) b1 b2 e1 e2 (by omega) (by simpa using h1) (by rwa [show k + (n1 + 1) = k + 1 + n1 by omega]) (by simpa using h3) (by rwa [show k + (n2 + 1) = k + 1 + n2 by omega])
  | some b :: l, k, h => by
    unfold chs
    have ih : ((chs ρ α (k + 1) l).map (·.id)).Nodup := chs_nodup fun n1 n2 b1 b2 e1 e2 hlt h1 h2 h3 h4 => h (n1 + 1) (n2 + 1) b1 b2 e1 e2 (by omega) (by simpa using h1) (by rwa [show k + (n1 + 1) = k + 1 + n1 by omega]) (by simpa using h3) (by rwa [show k + (n2 + 1) = k + 1 + n2 by omega])
    cases hb : b.ch ρ α k with
    | none => simpa using ih
    | some e =>
      simp only [Option.toList_some, List.cons_append, List.nil_append, List.map_cons]
      refine List.nodup_cons.2 ⟨fun hm => ?_, ih⟩
      obtain ⟨e2, he2, hid⟩ := List.mem_map.1 hm
      obtain ⟨n, b2, h1, h2⟩ := chs_inv he2
      exact h 0 (n + 1) b b2 e e2 (by omega) rfl (by rwa [Nat.add_zero]) (by simpa using h1) (by rwa [show k + (n + 1) = k + 1 + n by omega]) hid.symm
theorem st_sub {hs hs' : List Ch} {os : List Ow} {ps : List (World → Prop)} (h : St w0 hs os ps W) (hm : ∀ e ∈ hs', e ∈ hs) (hn : (hs'.map (·.id)).Nodup) : St w0 hs' os ps W := by
  have hmm : ∀ b ∈ hs'.map (·.id), b ∈ hs.map (·.id) := fun b hb => by
    obtain ⟨e, he, rfl⟩ := List.mem_map.1 hb
    exact List.mem_map.2 ⟨e, hm e he, rfl⟩
  have hnd := List.nodup_append.1 h.nodup
  refine ⟨h.old, fun e he => h.blk e (hm e he), h.own, List.nodup_append.2 ⟨hn, hnd.2.1, fun a ha b hb => hnd.2.2 a (hmm a ha) b hb⟩, fun p hp W' hW => h.pers p hp W' ⟨hW.size, fun b hb hnm => hW.block b hb fun hq => hnm ?_⟩⟩
  rcases List.mem_append.1 hq with hq | hq
  · exact List.mem_append.2 (.inl (hmm b hq))
  · exact List.mem_append.2 (.inr hq)
theorem Lps.re {α α' : Nat → AV} {ok ok' : Nat → Bool} : ∀ {T : List TF} {lps : List (Nat × LS)}, Lps α ok lps T → (∀ q ∈ lps, ok' q.1 = true ∧ α' q.1 = α q.1) → Lps α' ok' lps T
  | [], _, h, _ => h
  | t :: T, lps, h, hq => by
    unfold Lps at h ⊢
    refine ⟨h.1, ?_⟩
    have h := h.2
    split at h
    · exact Lps.re h hq
    · cases lps with
      | nil => exact h.elim
      | cons q lps' =>
        obtain ⟨⟨a, b, c⟩, d⟩ := h
        obtain ⟨h1, h2⟩ := hq q (List.mem_cons_self ..)
        exact ⟨⟨h1, by rw [h2]; exact b, c⟩, Lps.re d fun q' hq' => hq q' (List.mem_cons_of_mem _ hq')⟩
theorem Lps.ok {α : Nat → AV} {ok : Nat → Bool} : ∀ {T : List TF} {lps : List (Nat × LS)}, Lps α ok lps T → ∀ q ∈ lps, ok q.1 = true
  | [], lps, h, q, hq => by
    have h : lps = [] := h
    subst h; cases hq
  | t :: T, lps, h, q, hq => by
    unfold Lps at h
    have h := h.2
    split at h
    · exact Lps.ok h q hq
    · cases lps with
      | nil => cases hq
      | cons q' lps' =>
        obtain ⟨⟨a, b, c⟩, d⟩ := h
        rcases List.mem_cons.1 hq with rfl | hq
        · exact a
        · exact Lps.ok d q hq
/-- a block stands for another one -/
def BSame (w0 : Org) (ρ' : List Value) (α' : Nat → AV) (n : Nat) (b : Blk) (ρ : List Value) (α : Nat → AV) (n' : Nat) (b' : Blk) : Prop :=
  (b.ch ρ' α' n = b'.ch ρ α n') ∧ (b'.rowOk ρ α n' → b.rowOk ρ' α' n) ∧ b.ex w0 ρ' α' n = b'.ex w0 ρ α n'
theorem bsame_of {ρ' : List Value} {α' : Nat → AV} {n n' : Nat} {b b' : Blk} (hα : α' n = α n') (ht : b'.t = b.t) (hk : b'.k = b.k) (hd : denL ρ' α' b.c = denL ρ α b'.c) : BSame w0 ρ' α' n b ρ α n' b' := by
  refine ⟨?_, ?_, ?_⟩
  · unfold Blk.ch Blk.xs; rw [hα, ht, hk, hd]
  · intro h; unfold Blk.rowOk Blk.xs at h ⊢; rw [hα, hd]; rwa [hk] at h
  · unfold Blk.ex Blk.xs; rw [hα, hk, hd, ht]
theorem bsame_tomb {ρ' : List Value} {α' : Nat → AV} {n n' : Nat} {b' : Blk} : (tomb.ch ρ' α' n = none) ∧ tomb.rowOk ρ' α' n ∧ tomb.ex w0 ρ' α' n = none := ⟨rfl, trivial, rfl⟩
/-- at a loop's head -/
theorem fresh_inv {an : Ann} {ws : List Nat} {vals : List V} (hI : InvA w0 ps T ρ s a W α) (hp : ρ0 <+: ρ) (hg : Good ρ0 s0) (hw : s0.Wf ρ0.length) (hM : Match an ws s0 s) (hv : annVals an s = some vals) (hno : namesOk an s0 s = true) :
    Inv w0 ps T (ρ0 ++ denL ρ α vals) (freshS an ws s0) a W ∧ Sh.fitL (an.pos.map fun e => e.2.sh) (denL ρ α vals) = true := by
  obtain ⟨hl, hs⟩ := annVals_spec hv
  simp only [namesOk, Bool.and_eq_true, decide_eq_true_eq] at hno
  obtain ⟨hlen0, hno⟩ := hno
  have hno' : ∀ i, i < an.pos.length → annRow an i = true → ∃ n, annName an s i = some n ∧ (s0.hp.length ≤ n ∨ n ∈ annDead an s0) ∧ ∀ j, j < an.pos.length → i ≠ j → annRow an j = true → annName an s j ≠ some n := by
    intro i hi hr
    have := List.all_eq_true.1 hno i (List.mem_range.2 hi)
    rw [hr] at this
    simp only [Bool.not_true, Bool.false_or] at this
    split at this
    · rename_i n hn
      simp only [Bool.and_eq_true, Bool.or_eq_true, decide_eq_true_eq] at this
      refine ⟨n, hn, this.1.imp id fun h => by simpa using h, fun j hj hij hrj => ?_⟩
      have h2 := List.all_eq_true.1 this.2 j (List.mem_range.2 hj)
      rw [hrj] at h2
      simp only [Bool.or_eq_true, decide_eq_true_eq, Bool.not_true, Bool.false_eq_true, or_false, Bool.not_eq_true', beq_eq_false_iff_ne] at h2
      exact h2.resolve_left hij
    · cases this
  have hxl : (denL ρ α vals).length = an.pos.length := by rw [denL_len, hl]
  have hpx : ρ0 <+: ρ0 ++ denL ρ α vals := ⟨_, rfl⟩
  have hlen : ρ0.length ≤ (ρ0 ++ denL ρ α vals).length := by simp
  have hsh : s0.sh.length = ρ0.length := hg.len
  -- the addresses
  let α' : Nat → AV := fun n => if n < s0.hp.length then α n else match annName an s (n - s0.hp.length) with
    | some n' => α n'
    | none => α n
  have hα0 : ∀ n, n < s0.hp.length → α' n = α n := fun n hn => if_pos hn
  have hα1 : ∀ j n', annName an s j = some n' → α' (s0.hp.length + j) = α n' := fun j n' h => by
    show (if s0.hp.length + j < s0.hp.length then _ else _) = _
    rw [if_neg (by omega), Nat.add_sub_cancel_left, h]
  have hαl : ∀ n, lv s0.ln n = true → α' n = α n := fun n hn => by
    obtain ⟨b, hb⟩ := lv_iff.1 hn
    exact hα0 n (by rw [hlen0]; exact (List.getElem?_eq_some_iff.1 hb).1)
  have hlv : ∀ n, lv s0.ln n = true → lv (s0.ln ++ newB an s0.sh.length) n = true := fun n hn => by
    obtain ⟨b, hb⟩ := lv_iff.1 hn
    exact lv_iff.2 ⟨b, by rw [List.getElem?_append_left (List.getElem?_eq_some_iff.1 hb).1]; exact hb⟩
  have hold : ∀ (x : V), x.wf s0.ln ρ0.length = true → x.den (ρ0 ++ denL ρ α vals) α' = x.den ρ α := fun x hx => by
    rw [V.den_eq (hp := s0.ln) hαl hpx x hx, den_pre hp hx]
  have holdL : ∀ (l : List V), wfL s0.ln ρ0.length l = true → denL (ρ0 ++ denL ρ α vals) α' l = denL ρ α l := fun l hx => by
    rw [denL_map _ _ l, denL_map _ _ l]
    exact List.map_congr_left fun x hm => hold x (wfL_mem hx x hm)
  have hxj : ∀ (j : Nat) (v : V), vals[j]? = some v → (ρ0 ++ denL ρ α vals).getD (s0.sh.length + j) undef = v.den ρ α := fun j v hj => by
    have h2 := denL_at (ρ := ρ) (α := α) hj
    rw [hsh, List.getD_eq_getElem?_getD, List.getElem?_append_right (by omega), Nat.add_sub_cancel_left, h2]
    rfl
  -- what is handed on fits, and means what it meant
  have hpos : ∀ (j : Nat) (p : Pos) (hk : HK), an.pos[j]? = some (p, hk) → ∃ u v, p.get s = some u ∧ heldOf s hk u = some v ∧ vals[j]? = some v ∧ hk.sh.fit (v.den ρ α) = true ∧ (hk.v s0.sh.length s0.hp.length j).den (ρ0 ++ denL ρ α vals) α' = u.den ρ α ∧ (hk.named = true → ∃ n, u = .row n ∧ annName an s j = some n) := by
    intro j p hk hj
    obtain ⟨u, v, hu, hh, hv2⟩ := hs j p hk hj
    refine ⟨u, v, hu, hh, hv2, ?_⟩
    have hx := hxj j v hv2
    cases hk with
    | one =>
      obtain ⟨rfl, h1⟩ := held_one hh
      have hf : Sh.one.fit (v.den ρ α) = true := by simp only [Sh.fit]; exact one_ok hI.good (List.prefix_refl _) α h1
      exact ⟨hf, exp_den _ _ _ .one [] _ hx hf, nofun⟩
    | ag n =>
      obtain ⟨cs, rfl, h1, h2, rfl⟩ := held_ag hh
      have hf : (Sh.ag n).fit ((V.a cs).den ρ α) = true := by
        have h2 := ones_ok hI.good (List.prefix_refl _) α h2
        simp only [Sh.fit, V.den, denL_len, h1, Bool.and_eq_true, beq_iff_eq]
        exact ⟨trivial, by simpa using h2⟩
      exact ⟨hf, exp_den _ _ _ (.ag n) [] _ hx hf, nofun⟩
    | ext sz =>
      obtain ⟨m, b, rfl, hb, hbk, rfl⟩ := held_ext hh
      have hnm : annName an s j = some m := by simp [annName, hj, HK.named, hu, nameOf]
      exact ⟨rfl, by simp only [HK.v, V.den]; rw [hα1 j m hnm], fun _ => ⟨m, rfl, hnm⟩⟩
    | row sz e =>
      obtain ⟨m, b, rfl, hb, hbk, hbt, rfl⟩ := held_row hh
      have hnm : annName an s j = some m := by simp [annName, hj, HK.named, hu, nameOf]
      exact ⟨rfl, by simp only [HK.v, V.den]; rw [hα1 j m hnm], fun _ => ⟨m, rfl, hnm⟩⟩
    | any =>
      obtain rfl := held_any hh
      exact ⟨rfl, exp_den _ _ _ .any [] _ hx rfl, nofun⟩
  have hposV : ∀ (p : Pos) (u' : V), posV an s0.sh.length s0.hp.length p = some u' → ∃ u, p.get s = some u ∧ u'.den (ρ0 ++ denL ρ α vals) α' = u.den ρ α ∧ u'.wf (s0.ln ++ newB an s0.sh.length) (ρ0 ++ denL ρ α vals).length = true := by
    intro p u' h
    obtain ⟨j, hk, hj, rfl⟩ := posV_spec h
    obtain ⟨u, v, h1, h2, h3, h4, h5, h6⟩ := hpos j p hk hj
    refine ⟨u, h1, h5, ?_⟩
    have hjl : j < an.pos.length := (List.getElem?_eq_some_iff.1 hj).1
    have hlvn : hk.named = true → lv (s0.ln ++ newB an s0.sh.length) (s0.hp.length + j) = true := fun hn => by
      cases hk <;> simp [HK.named] at hn
      · exact lv_iff.2 ⟨_, by rw [hlen0, List.getElem?_append_right (by omega), Nat.add_sub_cancel_left]; simp [newB, List.getElem?_mapIdx, hj, HK.blk]; rfl⟩
      · exact lv_iff.2 ⟨_, by rw [hlen0, List.getElem?_append_right (by omega), Nat.add_sub_cancel_left]; simp [newB, List.getElem?_mapIdx, hj, HK.blk]; rfl⟩
    cases hk with
    | one => simp only [HK.v, Sh.exp, V.wf, decide_eq_true_eq, List.length_append, hxl]; omega
    | ag n =>
      simp only [HK.v, Sh.exp, V.wf]
      refine wfL_of fun x hx => ?_
      obtain ⟨i, _, rfl⟩ := List.mem_map.1 hx
      simp only [V.wf, decide_eq_true_eq, List.length_append, hxl]; omega
    | ext sz => exact hlvn rfl
    | row sz e => exact hlvn rfl
    | any => simp only [HK.v, Sh.exp, V.wf, decide_eq_true_eq, List.length_append, hxl]; omega
  have hxlen : ∀ j, j < an.pos.length → s0.sh.length + j < (ρ0 ++ denL ρ α vals).length := fun j hj => by simp only [List.length_append, hxl]; omega
  -- the blocks
  have hnew : ∀ (j : Nat) (b : Blk), (newB an s0.sh.length)[j]? = some (some b) → ∃ n' b', annName an s j = some n' ∧ s.hp[n']? = some (some b') ∧ BSame w0 (ρ0 ++ denL ρ α vals) α' (s0.hp.length + j) b ρ α n' b' ∧ b.c = [.x (s0.sh.length + j) []] ∧ j < an.pos.length ∧ (b.own = true → annRow an j = true) := by
    intro j b hb
    simp only [newB, List.getElem?_mapIdx, Option.map_eq_some_iff] at hb
    obtain ⟨⟨p, hk⟩, hj, hb⟩ := hb
    obtain ⟨u, v, h1, h2, h3, h4, h5, h6⟩ := hpos j p hk hj
    have hx := hxj j v h3
    have hjl : j < an.pos.length := (List.getElem?_eq_some_iff.1 hj).1
    have key : ∀ (n' : Nat) (b' : Blk), annName an s j = some n' → s.hp[n']? = some (some b') → v = .cat b'.c → b.c = [.x (s0.sh.length + j) []] → (b.k = b'.k ∧ ((∃ sz, b.k = .ext sz) ∨ ∃ sz, b.k = .row sz ∧ b.t = b'.t)) → BSame w0 (ρ0 ++ denL ρ α vals) α' (s0.hp.length + j) b ρ α n' b' := by
      intro n' b' hn hb' hvv hc hkk
      subst hvv
      have hxs : b.xs (ρ0 ++ denL ρ α vals) α' = b'.xs ρ α := by
        unfold Blk.xs
        rw [hc]
        simp only [denL, V.den, List.foldl_nil, hx, List.flatMap_cons, List.flatMap_nil, cellsV, List.append_nil]
      have hα2 := hα1 j n' hn
      refine ⟨?_, ?_, ?_⟩
      · unfold Blk.ch
        rw [← hkk.1, hα2, hxs]
        rcases hkk.2 with ⟨sz, e⟩ | ⟨sz, e, e2⟩ <;> rw [e]
        rw [e2]
      · intro hr
        unfold Blk.rowOk at hr ⊢
        rw [hα2, hxs]
        rwa [← hkk.1] at hr
      · unfold Blk.ex
        rw [← hkk.1, hα2, hxs]
        rcases hkk.2 with ⟨sz, e⟩ | ⟨sz, e, _⟩ <;> rw [e]
    cases hk with
    | one => simp [HK.blk] at hb
    | ag n => simp [HK.blk] at hb
    | any => simp [HK.blk] at hb
    | ext sz =>
      obtain rfl : b = ⟨[.x (s0.sh.length + j) []], 0, .ext sz⟩ := by simpa [HK.blk] using hb.symm
      obtain ⟨n, b', rfl, hb', hbk, rfl⟩ := held_ext h2
      obtain ⟨n2, e2, hn⟩ := h6 rfl
      cases e2
      exact ⟨n, b', hn, hb', key n b' hn hb' rfl rfl ⟨hbk.symm, .inl ⟨sz, rfl⟩⟩, rfl, hjl, nofun⟩
    | row sz e =>
      obtain rfl : b = ⟨[.x (s0.sh.length + j) []], e, .row sz⟩ := by simpa [HK.blk] using hb.symm
      obtain ⟨n, b', rfl, hb', hbk, hbt, rfl⟩ := held_row h2
      obtain ⟨n2, e2, hn⟩ := h6 rfl
      cases e2
      exact ⟨n, b', hn, hb', key n b' hn hb' rfl rfl ⟨hbk.symm, .inr ⟨sz, rfl, hbt.symm⟩⟩, rfl, hjl, fun _ => by simp [annRow, hj, HK.isRow]⟩
  have holdB : ∀ (n : Nat) (b : Blk), (freshH an s0.sh.length s0.hp.length (annDead an s0) s0.hp)[n]? = some (some b) → n < s0.hp.length ∧ (b = tomb ∨ (n ∉ annDead an s0 ∧ wfL (s0.ln ++ newB an s0.sh.length) (ρ0 ++ denL ρ α vals).length b.c = true ∧ ∃ b', s.hp[n]? = some (some b') ∧ BSame w0 (ρ0 ++ denL ρ α vals) α' n b ρ α n b')) := by
    intro n b hb
    simp only [freshH, List.getElem?_mapIdx, Option.map_eq_some_iff] at hb
    obtain ⟨o, ho, b0, hb0, hb⟩ := hb
    subst hb0
    have hnl : n < s0.hp.length := (List.getElem?_eq_some_iff.1 ho).1
    refine ⟨hnl, ?_⟩
    split at hb
    · exact .inl hb.symm
    · rename_i hdead
      right
      have hnd : n ∉ annDead an s0 := by simpa using hdead
      obtain ⟨b', h4, h5, h5k, h6, h7⟩ := hM.hp n b0 ho hnd
      subst hb
      have hw0 := hw.hp b0 (List.mem_of_getElem? ho)
      refine ⟨hnd, wfL_of fun v' hv' => ?_, b', h4, bsame_of (hα0 n hnl) h5 h5k ?_⟩
      · obtain ⟨k, hk⟩ := List.mem_iff_getElem?.1 hv'
        simp only [List.getElem?_mapIdx, Option.map_eq_some_iff] at hk
        obtain ⟨u, hu, hk⟩ := hk
        split at hk
        · rename_i u' hu'
          subst hk
          obtain ⟨_, _, _, h⟩ := hposV _ _ hu'
          exact h
        · subst hk
          exact V.wf_mono hlv hlen _ (wfL_mem hw0 _ (List.mem_of_getElem? hu))
      · apply List.ext_getElem?
        intro k
        rw [denL_map (ρ0 ++ denL ρ α vals), denL_map ρ α b'.c, List.getElem?_map, List.getElem?_map, List.getElem?_mapIdx]
        cases hq : b0.c[k]? with
        | none =>
          have : b'.c[k]? = none := by rw [List.getElem?_eq_none_iff] at *; omega
          rw [this]; rfl
        | some u =>
          simp only [Option.map_some]
          split
          · rename_i u' hu'
            obtain ⟨u2, g1, g2, _⟩ := hposV _ _ hu'
            rw [g2]
            simp only [Pos.get, h4, Option.join_some, Option.bind_some] at g1
            obtain ⟨b2, hb2, g3⟩ := Option.bind_eq_some_iff.1 g1
            obtain ⟨rfl, _⟩ := cmB_eq hb2
            rw [g3]; rfl
          · rename_i hpn
            have hsk : skipC an n k = false := posV_none hpn
            rw [h7 k u hsk hq]
            simp only [Option.map_some]
            rw [hold u (wfL_mem hw0 _ (List.mem_of_getElem? hq))]
  have happ : ∀ (l : List (Option Blk)) (n : Nat) (b : Blk), l.length = s0.hp.length → (l ++ newB an s0.sh.length)[n]? = some (some b) → (n < s0.hp.length ∧ l[n]? = some (some b)) ∨ ∃ j, n = s0.hp.length + j ∧ (newB an s0.sh.length)[j]? = some (some b) := by
    intro l n b hll h
    rw [List.getElem?_append] at h
    split at h
    · rename_i hlt; exact .inl ⟨by omega, h⟩
    · rename_i hge; exact .inr ⟨n - l.length, by omega, h⟩
  have hfl : (freshH an s0.sh.length s0.hp.length (annDead an s0) s0.hp).length = s0.hp.length := by simp [freshH]
  -- each block stands for one
  have hall : ∀ (n : Nat) (b : Blk), (freshS an ws s0).hp[n]? = some (some b) → (b.ch (ρ0 ++ denL ρ α vals) α' n = none ∧ b.rowOk (ρ0 ++ denL ρ α vals) α' n ∧ b.own = true ∧ n < s0.hp.length) ∨ ∃ n' b', s.hp[n']? = some (some b') ∧ BSame w0 (ρ0 ++ denL ρ α vals) α' n b ρ α n' b' ∧ ((n < s0.hp.length ∧ n' = n ∧ n ∉ annDead an s0) ∨ ∃ j, n = s0.hp.length + j ∧ j < an.pos.length ∧ annName an s j = some n' ∧ (b.own = true → annRow an j = true)) := by
    intro n b hb
    rcases happ _ n b hfl hb with ⟨hlt, h⟩ | ⟨j, rfl, h⟩
    · obtain ⟨_, h2⟩ := holdB n b h
      rcases h2 with rfl | ⟨h2, _, b', h3, h4⟩
      · exact .inl ⟨rfl, trivial, rfl, hlt⟩
      · exact .inr ⟨n, b', h3, h4, .inl ⟨hlt, rfl, h2⟩⟩
    · obtain ⟨n', b', h1, h2, h3, _, h4, h5⟩ := hnew j b h
      exact .inr ⟨n', b', h2, h3, .inr ⟨j, rfl, h4, h1, h5⟩⟩
  have hwh : WfH (s0.ln ++ newB an s0.sh.length) (ρ0 ++ denL ρ α vals).length (freshS an ws s0).hp := by
    intro b hb
    obtain ⟨n, hn⟩ := List.mem_iff_getElem?.1 hb
    rcases happ _ n b hfl hn with ⟨hlt, h⟩ | ⟨j, rfl, h⟩
    · obtain ⟨_, h2⟩ := holdB n b h
      rcases h2 with rfl | ⟨_, h2, _⟩
      · rfl
      · exact h2
    · obtain ⟨n', b', _, _, _, hc, h4, _⟩ := hnew j b h
      rw [hc]
      simp only [wfL, V.wf, Bool.and_true, decide_eq_true_eq]
      exact hxlen j h4
  have hos : osA a (freshS an ws s0) T = osA a s T := by show markOs a.defers ++ loopOs s0.lps T = _; rw [hM.lps]; rfl
  refine ⟨⟨α', ⟨hI.defers.1, by show Lps α' _ s0.lps T; rw [hM.lps]; exact hI.defers.2.re fun q hq => ⟨hlv _ (hM.lpl q (by rw [hM.lps]; exact hq)), hαl _ (hM.lpl q (by rw [hM.lps]; exact hq))⟩⟩, ⟨?_, ?_, ?_⟩, ⟨?_, ?_, hwh, ?_⟩, ⟨?_, ?_⟩, ?_, ?_, ?_, ?_⟩, ?_⟩
  · simp [freshS, hsh, hxl]
  · intro i h hi
    simp only [freshS] at hi
    by_cases hlt : i < s0.sh.length
    · rw [List.getElem?_append_left hlt] at hi
      have := hg.fit i h hi
      rwa [List.getD_eq_getElem?_getD, List.getElem?_append_left (by omega), ← List.getD_eq_getElem?_getD]
    · rw [List.getElem?_append_right (by omega), List.getElem?_map, Option.map_eq_some_iff] at hi
      obtain ⟨⟨p, hk⟩, hj, rfl⟩ := hi
      obtain ⟨u, v, h1, h2, h3, h4, _⟩ := hpos _ p hk hj
      have := hxj _ v h3
      rw [show s0.sh.length + (i - s0.sh.length) = i by omega] at this
      rw [this]
      exact h4
  · intro e he
    obtain ⟨h3, h4⟩ := hg.kn e he
    refine ⟨by simp; omega, ?_⟩
    rwa [List.getD_eq_getElem?_getD, List.getElem?_append_left h3, ← List.getD_eq_getElem?_getD]
  · intro v hv'
    obtain ⟨d, hd⟩ := List.mem_iff_getElem?.1 hv'
    simp only [freshS, freshFr, List.getElem?_mapIdx, Option.map_eq_some_iff] at hd
    obtain ⟨o, ho, hd⟩ := hd
    split at hd
    · rename_i u' hu'
      obtain rfl : u' = v := by simpa using hd
      obtain ⟨_, _, _, h⟩ := hposV _ _ hu'
      exact h
    · split at hd
      · cases hd
      · subst hd
        exact V.wf_mono hlv hlen v (hw.fr v (List.mem_of_getElem? ho))
  · intro f hf
    exact (hw.stk f hf).mono hlv hlen
  · intro b hb
    obtain ⟨n, hn⟩ := List.mem_iff_getElem?.1 hb
    rcases happ _ n b (by rw [hlen0]) hn with ⟨hlt, h⟩ | ⟨j, rfl, h⟩
    · exact wfL_mono hlv hlen _ (hw.ln b (List.mem_of_getElem? h))
    · obtain ⟨n', b', _, _, _, hc, h4, _⟩ := hnew j b h
      rw [hc]
      simp only [wfL, V.wf, Bool.and_true, decide_eq_true_eq]
      exact hxlen j h4
  · simp [freshS, freshFr, hI.fm.1, hM.fr.1]
  · intro d v hd
    simp only [freshS, freshFr, List.getElem?_mapIdx, Option.map_eq_some_iff] at hd
    obtain ⟨o, ho, hd⟩ := hd
    split at hd
    · rename_i u' hu'
      obtain rfl : u' = v := by simpa using hd
      obtain ⟨u, g1, g2, _⟩ := hposV _ _ hu'
      rw [look_den hI.good hI.fm g1, g2]
    · rename_i hns
      split at hd
      · cases hd
      · rename_i hnw
        subst hd
        have hsk : skipS an ws d = false := by
          unfold skipS
          rw [posV_none hns]
          simpa using hnw
        have := hI.fm.2 d v (hM.fr.2 d v hsk ho)
        rw [this, hold v (hw.fr v (List.mem_of_getElem? ho))]
  · have := StkLe.fms hM.stk hI.fms
    have h3 : Fms ρ0 α s0.stk T := fms_back hp this hw.stk
    exact h3.to hαl hpx hw.stk
  · -- the blocks
    have hnd : ((chs ρ α 0 s.hp).map (·.id)).Nodup := (List.nodup_append.1 hI.st.nodup).1
    rw [hos]
    refine st_ps (st_sub hI.st (fun e he => ?_) (chs_nodup fun n1 n2 b1 b2 e1 e2 hlt h1 h2 h3 h4 => ?_)) (app_sub fun p hpm => ?_)
    · obtain ⟨n, b, h1, h2⟩ := chs_inv he
      rw [Nat.zero_add] at h2
      rcases hall n b h1 with ⟨h3, _⟩ | ⟨n', b', h3, h4, _⟩
      · rw [h3] at h2; cases h2
      · exact chs_mem h3 (by rw [Nat.zero_add, ← h4.1]; exact h2)
    · rw [Nat.zero_add] at h2 h4
      have own_of : ∀ {b : Blk} {n : Nat} {e : Ch}, b.ch (ρ0 ++ denL ρ α vals) α' n = some e → b.own = true := fun {b n e} h => by
        unfold Blk.ch at h
        unfold Blk.own
        cases hk : b.k <;> simp [hk] at h ⊢
      rcases hall n1 b1 h1 with ⟨h5, _⟩ | ⟨m1, c1, h5, h6, h7⟩
      · rw [h5] at h2; cases h2
      rcases hall n2 b2 h3 with ⟨h8, _⟩ | ⟨m2, c2, h8, h9, h10⟩
      · rw [h8] at h4; cases h4
      rw [h6.1] at h2
      rw [h9.1] at h4
      refine chs_ne hnd ?_ h5 h2 h8 h4
      rcases h7 with ⟨q1, rfl, q2⟩ | ⟨j1, q1, q2, q3, q4⟩
      · rcases h10 with ⟨r1, rfl, r2⟩ | ⟨j2, r1, r2, r3, r4⟩
        · omega
        · rintro rfl
          obtain ⟨n, t1, t2, _⟩ := hno' j2 r2 (r4 (own_of (h9.1.trans h4)))
          rw [r3] at t1
          obtain rfl : m1 = n := by simpa using t1
          rcases t2 with t2 | t2
          · omega
          · exact q2 t2
      · rcases h10 with ⟨r1, rfl, r2⟩ | ⟨j2, r1, r2, r3, r4⟩
        · omega
        · rintro rfl
          obtain ⟨n, t1, _, t3⟩ := hno' j1 q2 (q4 (own_of (h6.1.trans h2)))
          rw [q3] at t1
          obtain rfl : m1 = n := by simpa using t1
          exact t3 j2 r2 (by omega) (r4 (own_of (h9.1.trans h4))) r3
    · obtain ⟨n, b, h1, h2⟩ := exs_mem.1 hpm
      rw [Nat.zero_add] at h2
      rcases hall n b h1 with ⟨_, _, h3, _⟩ | ⟨n', b', h3, h4, _⟩
      · rw [Blk.own_ex h3] at h2; cases h2
      · exact exs_mem.2 ⟨n', b', h3, by rw [Nat.zero_add, ← h4.2.2]; exact h2⟩
  · intro n b hb
    refine ⟨?_, ?_⟩
    · rcases happ _ n b hfl hb with ⟨hlt, h⟩ | ⟨j, rfl, h⟩
      · simp only [freshH, List.getElem?_mapIdx, Option.map_eq_some_iff] at h
        obtain ⟨o, ho, b0, hb0, _⟩ := h
        subst hb0
        exact hlv n (hM.live n b0 ho)
      · exact lv_iff.2 ⟨b, by show (s0.ln ++ newB an s0.sh.length)[_]? = _; rw [hlen0, List.getElem?_append_right (by omega), Nat.add_sub_cancel_left]; exact h⟩
    · rcases hall n b hb with ⟨_, h3, _⟩ | ⟨n', b', h3, h4, _⟩
      · exact h3
      · exact h4.2.1 (hI.rows n' b' h3).2
  · intro n b hb
    rcases happ _ n b (by rw [hlen0]) hb with ⟨hlt, h⟩ | ⟨j, rfl, h⟩
    · have hb' := hM.ln n b h
      have h5 := hI.lens n b hb'
      have hw' := hw.ln b (List.mem_of_getElem? h)
      unfold Blk.lenOk Blk.xs at h5 ⊢
      rw [holdL b.c hw', hα0 n hlt]
      exact h5
    · obtain ⟨n', b', _, h2, h3, _⟩ := hnew j b h
      exact (h3.2.1 (hI.rows n' b' h2).2).len
  · -- the shapes
    have : ∀ (shs : List Sh) (xs : List Value), shs.length = xs.length → (∀ (j : Nat) (h : Sh) (x : Value), shs[j]? = some h → xs[j]? = some x → h.fit x = true) → Sh.fitL shs xs = true := by
      intro shs
      induction shs with
      | nil => intro xs h _; cases xs <;> simp [Sh.fitL] at h ⊢
      | cons h l ih =>
        intro xs hlx hf
        cases xs with
        | nil => simp at hlx
        | cons x xs =>
          simp only [Sh.fitL, Bool.and_eq_true]
          exact ⟨hf 0 h x rfl rfl, ih xs (by simpa using hlx) fun j h' x' h1 h2 => hf (j + 1) h' x' (by simpa using h1) (by simpa using h2)⟩
    refine this _ _ (by simp [hxl]) fun j h x h1 h2 => ?_
    rw [List.getElem?_map, Option.map_eq_some_iff] at h1
    obtain ⟨⟨p, hk⟩, hj, rfl⟩ := h1
    obtain ⟨u, v, _, _, h3, h4, _⟩ := hpos j p hk hj
    have := denL_at (ρ := ρ) (α := α) h3
    rw [h2] at this
    obtain rfl : x = v.den ρ α := by simpa using this
    exact h4
end
end SX
end Go.Proofs.Ytmkigejhgpoleaa
