/-
  A symbolic executor, sixth part: what a tree says; a loop's head.
-/
import Derived.Test.YtklppgkolcpbbaaSx5
namespace Go.Proofs.Ytklppgkolcpbbaa
set_option linter.unusedSimpArgs false
set_option linter.unusedVariables false
open Go Go.RowKit
namespace SX

mutual
/-- what is to be shown of a tree -/
def VC (C : Cx) (w0 : Org) (ps : List (World → Prop)) (T0 : List (Array Value)) (R : Ending → World → Prop) : List (List Value → Prop) → List Value → Tree → Prop
  | L, ρ, .df q args sh t => ∃ v, (∀ α, q.rel C ρ α args v) ∧ sh.fit v = true ∧ VC C w0 ps T0 R L (ρ ++ [v]) t
  | L, ρ, .br i p t e => ∃ b, p.foldl comp (ρ.getD i undef) = .bool b ∧ (b = true → VC C w0 ps T0 R L ρ t) ∧ (b = false → VC C w0 ps T0 R L ρ e)
  | L, ρ, .sp i p l => (∃ j : Nat, j < l.length ∧ p.foldl comp (ρ.getD i undef) = .int .i64 j) ∧ VCs C w0 ps T0 R L ρ (p.foldl comp (ρ.getD i undef)) 0 l
  | L, ρ, .ret v hp stk => ∀ α W, Fms ρ α stk T0 → (∀ (n : Nat) (b : Blk), hp[n]? = some (some b) → b.rowOk ρ α n) → St w0 (chs ρ α 0 hp) [] ps W → R (.returned (v.den ρ α)) W
  | L, ρ, .loop vals t => ∃ (I : List Value → Prop) (μ : List Value → Nat), (∀ α, I (denL ρ α vals)) ∧ ∀ xs, xs.length = vals.length → xs.all (·.oneCell') = true → I xs → VC C w0 ps T0 R (L ++ [fun ys => I ys ∧ μ ys < μ xs]) (ρ ++ xs) t
  | L, ρ, .again l vals => ∀ α, (L.getD l fun _ => False) (denL ρ α vals)
  | _, _, .bad _ _ => False
def VCs (C : Cx) (w0 : Org) (ps : List (World → Prop)) (T0 : List (Array Value)) (R : Ending → World → Prop) : List (List Value → Prop) → List Value → Value → Nat → List Tree → Prop
  | _, _, _, _, [] => True
  | L, ρ, u, j, t :: l => (u = .int .i64 (j : Int) → VC C w0 ps T0 R L ρ t) ∧ VCs C w0 ps T0 R L ρ u (j + 1) l
end
theorem VCs_at {C : Cx} {w0 : Org} {ps : List (World → Prop)} {T0 : List (Array Value)} {R : Ending → World → Prop} {L : List (List Value → Prop)} {ρ : List Value} {u : Value} : ∀ {l : List Tree} {k j : Nat} {t : Tree}, VCs C w0 ps T0 R L ρ u k l → l[j]? = some t → u = .int .i64 ((k + j : Nat) : Int) → VC C w0 ps T0 R L ρ t
  | [], _, _, _, _, h, _ => by simp at h
  | t' :: l, k, 0, t, h, ht, hu => by
    obtain rfl : t' = t := by simpa using ht
    unfold VCs at h
    exact h.1 hu
  | t' :: l, k, j + 1, t, h, ht, hu => by
    unfold VCs at h
    exact VCs_at (k := k + 1) (j := j) h.2 (by simpa using ht) (by rw [hu]; congr 2; omega)

/-- one frame says no more than the other one -/
def FrLe (f g : List (Option V)) : Prop := f.length = g.length ∧ ∀ (d : Nat) (v : V), f[d]? = some (some v) → g[d]? = some (some v)
def StkLe : List (List (Option V)) → List (List (Option V)) → Prop
  | [], [] => True
  | a :: l, b :: m => FrLe a b ∧ StkLe l m
  | _, _ => False
structure Match (an : Ann) (ws : List Nat) (s0 s : S) : Prop where
  fr : s0.fr.length = s.fr.length ∧ ∀ (d : Nat) (v : V), d ∉ an.slots → d ∉ ws → s0.fr[d]? = some (some v) → s.fr[d]? = some (some v)
  stk : StkLe s0.stk s.stk
  hp : ∀ (n : Nat) (b : Blk), s0.hp[n]? = some (some b) → ∃ b', s.hp[n]? = some (some b') ∧ b'.t = b.t ∧ b'.k = b.k ∧ b'.c.length = b.c.length ∧ ∀ (k : Nat) (v : V), (n, k) ∉ an.cells → b.c[k]? = some v → b'.c[k]? = some v
  ln : ∀ (n : Nat) (b : Blk), s0.ln[n]? = some (some b) → s.ln[n]? = some (some b)
  live : ∀ (n : Nat) (b : Blk), s0.hp[n]? = some (some b) → lv s0.ln n = true

theorem FrLe.refl (f : List (Option V)) : FrLe f f := ⟨rfl, fun _ _ h => h⟩
theorem StkLe.refl : ∀ l : List (List (Option V)), StkLe l l
  | [] => trivial
  | a :: l => ⟨.refl a, .refl l⟩
theorem Match.refl (an : Ann) (ws : List Nat) (s : S) (hl : ∀ (n : Nat) (b : Blk), s.hp[n]? = some (some b) → lv s.ln n = true) : Match an ws s s := ⟨⟨rfl, fun _ _ _ _ h => h⟩, .refl _, fun n b h => ⟨b, h, rfl, rfl, rfl, fun _ _ _ h => h⟩, fun _ _ h => h, hl⟩

theorem eqbFr_le {skip : List Nat} : ∀ {f g : List (Option V)} {k : Nat}, eqbFr skip k f g = true → f.length = g.length ∧ ∀ (d : Nat) (v : V), k + d ∉ skip → f[d]? = some (some v) → g[d]? = some (some v)
  | [], [], _, _ => ⟨rfl, fun d v _ h => by simp at h⟩
  | [], _ :: _, _, h => by simp [eqbFr] at h
  | _ :: _, [], _, h => by simp [eqbFr] at h
  | a :: l, b :: m, k, h => by
    simp only [eqbFr, Bool.and_eq_true, Bool.or_eq_true] at h
    obtain ⟨h1, h2⟩ := eqbFr_le h.2
    refine ⟨by simp [h1], fun d v hd hv => ?_⟩
    cases d with
    | zero =>
      simp at hv
      subst hv
      rcases h.1 with h3 | h3
      · exact absurd (by simpa using h3) hd
      · cases b with
        | none => simp [eqbO] at h3
        | some u => rw [V.eqb_eq v u h3]; rfl
    | succ d =>
      simpa using h2 d v (by rwa [show k + 1 + d = k + (d + 1) by omega]) (by simpa using hv)
theorem eqbS_le : ∀ {l m : List (List (Option V))}, eqbS l m = true → StkLe l m
  | [], [], _ => trivial
  | [], _ :: _, h => by simp [eqbS] at h
  | _ :: _, [], h => by simp [eqbS] at h
  | a :: l, b :: m, h => by
    simp only [eqbS, Bool.and_eq_true] at h
    obtain ⟨h1, h2⟩ := eqbFr_le h.1
    exact ⟨⟨h1, fun d v hv => h2 d v (by simp) hv⟩, eqbS_le h.2⟩
theorem eqbB_le {skip : List (Nat × Nat)} {n : Nat} : ∀ {l m : List V} {k : Nat}, eqbB skip n k l m = true → m.length = l.length ∧ ∀ (d : Nat) (v : V), (n, k + d) ∉ skip → l[d]? = some v → m[d]? = some v
  | [], [], _, _ => ⟨rfl, fun d v _ h => by simp at h⟩
  | [], _ :: _, _, h => by simp [eqbB] at h
  | _ :: _, [], _, h => by simp [eqbB] at h
  | a :: l, b :: m, k, h => by
    simp only [eqbB, Bool.and_eq_true, Bool.or_eq_true] at h
    obtain ⟨h1, h2⟩ := eqbB_le h.2
    refine ⟨by simp [h1], fun d v hd hv => ?_⟩
    cases d with
    | zero =>
      simp at hv
      subst hv
      rcases h.1 with h3 | h3
      · exact absurd (by simpa using h3) hd
      · rw [V.eqb_eq _ _ h3]; rfl
    | succ d =>
      simpa using h2 d v (by rwa [show k + 1 + d = k + (d + 1) by omega]) (by simpa using hv)
theorem eqbH_le {skip : List (Nat × Nat)} : ∀ {l m : List (Option Blk)} {k : Nat}, eqbH skip k l m = true → ∀ (n : Nat) (b : Blk), l[n]? = some (some b) → ∃ b', m[n]? = some (some b') ∧ b'.t = b.t ∧ b'.k = b.k ∧ b'.c.length = b.c.length ∧ ∀ (j : Nat) (v : V), (k + n, j) ∉ skip → b.c[j]? = some v → b'.c[j]? = some v
  | [], _, _, _, n, b, hn => by simp at hn
  | none :: l, [], k, h, n, b, hn => by simp [eqbH] at h
  | some _ :: l, [], k, h, n, b, hn => by simp [eqbH] at h
  | some _ :: l, none :: m, k, h, n, b, hn => by simp [eqbH] at h
  | none :: l, c :: m, k, h, n, b, hn => by
    simp only [eqbH] at h
    cases n with
    | zero => simp at hn
    | succ n =>
      obtain ⟨b', h1, h2⟩ := eqbH_le h n b (by simpa using hn)
      exact ⟨b', by simpa using h1, by rwa [show k + 1 + n = k + (n + 1) by omega] at h2⟩
  | some a :: l, some c :: m, k, h, n, b, hn => by
    simp only [eqbH, Bool.and_eq_true, beq_iff_eq, decide_eq_true_eq] at h
    cases n with
    | zero =>
      simp at hn
      subst hn
      obtain ⟨h3, h4⟩ := eqbB_le h.1.2
      exact ⟨c, rfl, h.1.1.1.symm, h.1.1.2.symm, h3, fun j v hj hv => h4 j v (by rwa [Nat.zero_add]) hv⟩
    | succ n =>
      obtain ⟨b', h1, h2⟩ := eqbH_le h.2 n b (by simpa using hn)
      exact ⟨b', by simpa using h1, by rwa [show k + 1 + n = k + (n + 1) by omega] at h2⟩

theorem cellsB_eq {b b' : Blk} (h : cellsB b = some b') : b = b' ∧ b'.k = .cells := by
  unfold cellsB at h
  split at h
  · rename_i hk
    obtain rfl : b = b' := by simpa using h
    exact ⟨rfl, hk⟩
  · cases h
theorem eqbH_same {l m : List (Option Blk)} (h : eqbH [] 0 l m = true) {n : Nat} {b : Blk} (hn : l[n]? = some (some b)) : m[n]? = some (some b) := by
  obtain ⟨b', h1, h2, h3, h4, h5⟩ := eqbH_le h n b hn
  have : b'.c = b.c := by
    apply List.ext_getElem?
    intro j
    cases hq : b.c[j]? with
    | some u => exact h5 j u (by simp) hq
    | none => rw [List.getElem?_eq_none_iff] at hq ⊢; omega
  obtain ⟨c, t, k⟩ := b
  obtain ⟨c', t', k'⟩ := b'
  simp only at h2 h3 this
  subst h2; subst h3; subst this
  exact h1
theorem annVals_spec {an : Ann} {s : S} {vals : List V} (h : annVals an s = some vals) : vals.length = an.slots.length + an.cells.length ∧
    (∀ (j d : Nat), an.slots[j]? = some d → ∃ v, vals[j]? = some v ∧ lookFr s d = some v) ∧
    (∀ (j : Nat) (e : Nat × Nat), an.cells[j]? = some e → ∃ v b, vals[an.slots.length + j]? = some v ∧ s.hp[e.1]? = some (some b) ∧ b.c[e.2]? = some v) := by
  have key : ∀ {β : Type} {f : β → Option V} {xs : List β} {ys : List V}, xs.mapM f = some ys → ys.length = xs.length ∧ ∀ (j : Nat) (x : β), xs[j]? = some x → ∃ v, ys[j]? = some v ∧ f x = some v := by
    intro β f xs
    induction xs with
    | nil => intro ys h; simp at h; subst h; exact ⟨rfl, fun j x hx => by simp at hx⟩
    | cons x xs ih =>
      intro ys h
      simp only [List.mapM_cons, Option.bind_eq_bind, Option.bind_eq_some_iff] at h
      obtain ⟨v, hv, vs, hvs, h⟩ := h
      simp at h
      subst h
      obtain ⟨h1, h2⟩ := ih hvs
      refine ⟨by simp [h1], fun j y hy => ?_⟩
      cases j with
      | zero => simp at hy; subst hy; exact ⟨v, rfl, hv⟩
      | succ j => simpa using h2 j y (by simpa using hy)
  unfold annVals at h
  simp only [Option.bind_eq_some_iff, Option.map_eq_some_iff] at h
  obtain ⟨l, hl, m, hm, rfl⟩ := h
  obtain ⟨h1, h2⟩ := key hl
  obtain ⟨h3, h4⟩ := key hm
  refine ⟨by simp [h1, h3], fun j d hd => ?_, fun j e he => ?_⟩
  · obtain ⟨v, hv, hv'⟩ := h2 j d hd
    exact ⟨v, by rw [List.getElem?_append_left (List.getElem?_eq_some_iff.1 hv).1]; exact hv, hv'⟩
  · obtain ⟨v, hv, hv'⟩ := h4 j e he
    simp only [Option.bind_eq_some_iff] at hv'
    obtain ⟨b, ⟨b0, hb, hb0⟩, hbv⟩ := hv'
    obtain ⟨rfl, _⟩ := cellsB_eq hb0
    refine ⟨v, b0, by rw [List.getElem?_append_right (by omega), h1, Nat.add_sub_cancel_left]; exact hv, ?_, hbv⟩
    cases hq : s.hp[e.1]? with
    | none => simp [hq] at hb
    | some o => simp [hq] at hb; rw [hb]

section
variable {C : Cx} {w0 : Org} {ps : List (World → Prop)} {T : List (Array Value)} {ρ ρ0 : List Value} {s s0 : S} {a : Act} {W : World} {α : Nat → AV}
theorem look_den (hg : Good ρ s) (hf : Fm ρ α s.fr a.tmps) {d : Nat} {v : V} (h : lookFr s d = some v) : a.tmps[d]? = some (v.den ρ α) := by
  have h1 : s.ev (.tmp d) = some v := h
  have h2 := ev_den hg hf h1
  unfold lookFr at h
  cases hq : s.fr[d]? with
  | none => simp [hq, lookV] at h
  | some o =>
    have hlt : d < a.tmps.size := by rw [hf.1]; exact (List.getElem?_eq_some_iff.1 hq).1
    rw [← h2]
    simp [Act.eval, Array.getD_eq_getD_getElem?, hlt]
theorem den_pre (hp : ρ0 <+: ρ) {hp0 : List (Option Blk)} {x : V} (hx : x.wf hp0 ρ0.length = true) : x.den ρ α = x.den ρ0 α := V.den_eq (hp := hp0) (fun _ _ => rfl) hp x hx
theorem FrLe.fm {f g : List (Option V)} {tmps : Array Value} (h : FrLe f g) (hf : Fm ρ α g tmps) : Fm ρ α f tmps := ⟨hf.1.trans h.1.symm, fun d v hv => hf.2 d v (h.2 d v hv)⟩
theorem StkLe.fms : ∀ {l m : List (List (Option V))} {T : List (Array Value)}, StkLe l m → Fms ρ α m T → Fms ρ α l T
  | [], [], _, _, h => h
  | a :: l, b :: m, [], _, h => h
  | a :: l, b :: m, t :: T, h, hf => ⟨h.1.fm hf.1, StkLe.fms h.2 hf.2⟩
  | [], _ :: _, _, h, _ => h.elim
  | _ :: _, [], _, h, _ => h.elim
theorem x_den {xs : List Value} {j : Nat} (hj : j < xs.length) : (V.x (ρ0.length + j) []).den (ρ0 ++ xs) α = xs[j] := by
  simp [V.den, List.getD_eq_getElem?_getD, hj]
theorem ch_of {ρ ρ' : List Value} {α : Nat → AV} {b b' : Blk} {k : Nat} (h2 : b'.t = b.t) (h4 : b'.k = b.k) (h3 : denL ρ' α b.c = denL ρ α b'.c) : b.ch ρ' α k = b'.ch ρ α k := by
  unfold Blk.ch Blk.xs
  rw [h2, h4, h3]
theorem rowOk_of {ρ ρ' : List Value} {α : Nat → AV} {b b' : Blk} {k : Nat} (h4 : b'.k = b.k) (h3 : denL ρ' α b.c = denL ρ α b'.c) : b.rowOk ρ' α k ↔ b'.rowOk ρ α k := by
  unfold Blk.rowOk Blk.xs
  rw [h4, h3]
theorem chs_sub {ρ ρ' : List Value} {α : Nat → AV} : ∀ {l m : List (Option Blk)} {k : Nat}, (∀ (n : Nat) (b : Blk), l[n]? = some (some b) → ∃ b', m[n]? = some (some b') ∧ b'.t = b.t ∧ b'.k = b.k ∧ denL ρ' α b.c = denL ρ α b'.c) → List.Sublist (chs ρ' α k l) (chs ρ α k m)
  | [], _, _, _ => by simp [chs]
  | none :: l, [], k, h => by
    have ih : List.Sublist (chs ρ' α (k + 1) l) (chs ρ α (k + 1) []) := chs_sub fun n b hb => by
      obtain ⟨b', h1, _⟩ := h (n + 1) b (by simpa using hb)
      simp at h1
    simpa [chs] using ih
  | some b :: l, [], k, h => by
    obtain ⟨b', h1, _⟩ := h 0 b rfl
    simp at h1
  | none :: l, c :: m, k, h => by
    have ih : List.Sublist (chs ρ' α (k + 1) l) (chs ρ α (k + 1) m) := chs_sub fun n b hb => by simpa using h (n + 1) b (by simpa using hb)
    cases c with
    | none => simpa [chs] using ih
    | some c =>
      unfold chs
      cases c.ch ρ α k with
      | none => simpa using ih
      | some e => simpa using ih.cons _
  | some b :: l, c :: m, k, h => by
    have ih : List.Sublist (chs ρ' α (k + 1) l) (chs ρ α (k + 1) m) := chs_sub fun n b hb => by simpa using h (n + 1) b (by simpa using hb)
    obtain ⟨b', h1, h2, h4, h3⟩ := h 0 b rfl
    simp at h1
    subst h1
    unfold chs
    rw [ch_of h2 h4 h3]
    exact (List.Sublist.refl _).append ih

theorem fm_back (hp : ρ0 <+: ρ) {f : List (Option V)} {tmps : Array Value} {hp0 : List (Option Blk)} (h : Fm ρ α f tmps) (hw : WfF hp0 ρ0.length f) : Fm ρ0 α f tmps :=
  ⟨h.1, fun d v hv => by rw [h.2 d v hv, den_pre hp (hw v (List.mem_of_getElem? hv))]⟩
theorem fms_back (hp : ρ0 <+: ρ) {hp0 : List (Option Blk)} : ∀ {l : List (List (Option V))} {T : List (Array Value)}, Fms ρ α l T → (∀ f ∈ l, WfF hp0 ρ0.length f) → Fms ρ0 α l T
  | [], [], h, _ => trivial
  | [], _ :: _, h, _ => h
  | _ :: _, [], h, _ => h
  | f :: l, t :: T, h, hw => ⟨fm_back hp h.1 (hw f (List.mem_cons_self ..)), fms_back hp h.2 fun g hg => hw g (List.mem_cons_of_mem _ hg)⟩
/-- at a loop's head -/
theorem fresh_inv {an : Ann} {ws : List Nat} {vals : List V} (hI : InvA w0 ps T ρ s a W α) (hp : ρ0 <+: ρ) (hg : Good ρ0 s0) (hw : s0.Wf ρ0.length) (hM : Match an ws s0 s) (hv : annVals an s = some vals) (h1 : vones s.sh vals = true) :
    InvA w0 ps T (ρ0 ++ denL ρ α vals) (freshS an ws s0) a W α := by
  obtain ⟨hl, hs, hc⟩ := annVals_spec hv
  have hxl : (denL ρ α vals).length = an.slots.length + an.cells.length := by rw [denL_len, hl]
  have hpx : ρ0 <+: ρ0 ++ denL ρ α vals := ⟨_, rfl⟩
  have hlv : ∀ n, lv s0.ln n = true → lv s0.ln n = true := fun n hn => hn
  have hlen : ρ0.length ≤ (ρ0 ++ denL ρ α vals).length := by simp
  have hsh : s0.sh.length = ρ0.length := hg.len
  have hden : ∀ (n : Nat) (b : Blk), (freshH an s0.sh.length s0.hp)[n]? = some (some b) → ∃ b', s.hp[n]? = some (some b') ∧ b'.t = b.t ∧ b'.k = b.k ∧ denL (ρ0 ++ denL ρ α vals) α b.c = denL ρ α b'.c := fun n b hb => by
    simp only [freshH, List.getElem?_mapIdx, Option.map_eq_some_iff] at hb
    obtain ⟨o, ho, b0, hb0, rfl⟩ := hb
    subst hb0
    obtain ⟨b', h4, h5, h5k, h6, h7⟩ := hM.hp n b0 ho
    refine ⟨b', h4, h5, h5k, ?_⟩
    apply List.ext_getElem?
    intro k
    rw [denL_map (ρ0 ++ denL ρ α vals), denL_map ρ α b'.c, List.getElem?_map, List.getElem?_map, List.getElem?_mapIdx]
    cases hq : b0.c[k]? with
    | none =>
      have : b'.c[k]? = none := by rw [List.getElem?_eq_none_iff] at *; omega
      rw [this]; rfl
    | some u =>
      simp only [Option.map_some]
      cases hj : an.cells.idxOf? (n, k) with
      | some j =>
        obtain ⟨hjl, hj2⟩ := List.idxOf?_eq_some_iff.1 hj
        obtain ⟨v, b2, hv1, hv2, hv3⟩ := hc j (n, k) (by rw [List.getElem?_eq_getElem hjl]; simpa using hj2.1)
        dsimp only at hv2 hv3 ⊢
        rw [h4] at hv2
        obtain rfl : b' = b2 := by simpa using hv2
        rw [hv3, hsh, Nat.add_assoc, x_den (by omega)]
        simp only [Option.map_some]
        congr 1
        have := denL_at (ρ := ρ) (α := α) hv1
        rw [List.getElem?_eq_getElem (by omega)] at this
        simpa using this
      | none =>
        dsimp only
        have hd1 : (n, k) ∉ an.cells := fun hm => List.idxOf?_eq_none_iff.1 hj hm
        rw [h7 k u hd1 hq]
        have hwu := wfL_mem (hw.hp b0 (List.mem_of_getElem? ho)) u (List.mem_of_getElem? hq)
        simp only [Option.map_some]
        rw [den_pre hp hwu, den_pre hpx hwu]
  refine ⟨hI.defers, ⟨?_, ?_, ?_⟩, ⟨?_, ?_, ?_, hw.ln.mono hlv hlen⟩, ⟨?_, ?_⟩, ?_, ?_, ?_, ?_⟩
  · simp [freshS, hsh, hxl]
  · intro i h hi
    simp only [freshS] at hi
    by_cases hlt : i < s0.sh.length
    · rw [List.getElem?_append_left hlt] at hi
      have := hg.fit i h hi
      rwa [List.getD_eq_getElem?_getD, List.getElem?_append_left (by omega), ← List.getD_eq_getElem?_getD]
    · rw [List.getElem?_append_right (by omega), List.getElem?_replicate] at hi
      split at hi
      · rename_i hlt2
        obtain rfl : Sh.one = h := by simpa using hi
        have hj : i - ρ0.length < (denL ρ α vals).length := by omega
        rw [List.getD_eq_getElem?_getD, List.getElem?_append_right (by omega), List.getElem?_eq_getElem hj]
        have := ones_ok hI.good (List.prefix_refl _) α h1
        rw [Array.all_eq_true_iff_forall_mem] at this
        exact this _ (by simp)
      · cases hi
  · intro e he
    obtain ⟨h3, h4⟩ := hg.kn e he
    refine ⟨by simp; omega, ?_⟩
    rwa [List.getD_eq_getElem?_getD, List.getElem?_append_left h3, ← List.getD_eq_getElem?_getD]
  · intro v hv'
    obtain ⟨d, hd⟩ := List.mem_iff_getElem?.1 hv'
    simp only [freshS, freshFr, List.getElem?_mapIdx, Option.map_eq_some_iff] at hd
    obtain ⟨o, ho, hd⟩ := hd
    split at hd
    · rename_i j hj
      obtain rfl : V.x (s0.sh.length + j) [] = v := by simpa using hd
      have hjl : j < an.slots.length := by
        have := List.idxOf?_eq_some_iff.1 hj
        exact this.1
      simp only [V.wf, decide_eq_true_eq, List.length_append, hxl]
      omega
    · split at hd
      · cases hd
      · subst hd
        exact V.wf_mono hlv hlen v (hw.fr v (List.mem_of_getElem? ho))
  · intro f hf
    exact (hw.stk f hf).mono hlv hlen
  · intro b hb
    obtain ⟨n, hn⟩ := List.mem_iff_getElem?.1 hb
    simp only [freshS, freshH, List.getElem?_mapIdx, Option.map_eq_some_iff] at hn
    obtain ⟨o, ho, b0, hb0, rfl⟩ := hn
    subst hb0
    refine wfL_of fun v hv' => ?_
    obtain ⟨k, hk⟩ := List.mem_iff_getElem?.1 hv'
    simp only [List.getElem?_mapIdx, Option.map_eq_some_iff] at hk
    obtain ⟨u, hu, hk⟩ := hk
    split at hk
    · rename_i j hj
      subst hk
      have hjl : j < an.cells.length := (List.idxOf?_eq_some_iff.1 hj).1
      simp only [V.wf, decide_eq_true_eq, List.length_append, hxl]
      omega
    · subst hk
      exact V.wf_mono hlv hlen u (wfL_mem (hw.hp b0 (List.mem_of_getElem? ho)) u (List.mem_of_getElem? hu))
  · simp [freshS, freshFr, hI.fm.1, hM.fr.1]
  · intro d v hd
    simp only [freshS, freshFr, List.getElem?_mapIdx, Option.map_eq_some_iff] at hd
    obtain ⟨o, ho, hd⟩ := hd
    split at hd
    · rename_i j hj
      obtain rfl : V.x (s0.sh.length + j) [] = v := by simpa using hd
      obtain ⟨hjl, hj2⟩ := List.idxOf?_eq_some_iff.1 hj
      obtain ⟨u, hu1, hu2⟩ := hs j d (by rw [List.getElem?_eq_getElem hjl]; simpa using hj2.1)
      rw [hsh, x_den (by omega), look_den hI.good hI.fm hu2]
      congr 1
      have := denL_at (ρ := ρ) (α := α) hu1
      rw [List.getElem?_eq_getElem (by omega)] at this
      simpa using this.symm
    · rename_i hns
      split at hd
      · cases hd
      · rename_i hnw
        subst hd
        have hd1 : d ∉ an.slots := fun hm => by
          have := List.idxOf?_eq_none_iff.1 hns
          exact this hm
        have := hI.fm.2 d v (hM.fr.2 d v hd1 (by simpa using hnw) ho)
        rw [this, den_pre hp (hw.fr v (List.mem_of_getElem? ho)), den_pre hpx (hw.fr v (List.mem_of_getElem? ho))]
  · have := StkLe.fms hM.stk hI.fms
    -- the suspended frames are as they were
    have h3 : Fms ρ0 α s0.stk T := by
      refine fms_back hp this hw.stk
    exact h3.to (fun _ _ => rfl) hpx hw.stk
  · exact hI.st.weak (chs_sub hden) (.refl _) fun _ h => h
  · intro n b hb
    obtain ⟨b', h4, _, h5, h6⟩ := hden n b hb
    refine ⟨?_, (rowOk_of h5 h6).2 (hI.rows n b' h4).2⟩
    have hb2 : (freshH an s0.sh.length s0.hp)[n]? = some (some b) := hb
    simp only [freshH, List.getElem?_mapIdx, Option.map_eq_some_iff] at hb2
    obtain ⟨o, ho, b0, hb0, _⟩ := hb2
    subst hb0
    exact hM.live n b0 ho
  · intro n b hb
    have hb' := hM.ln n b hb
    have h5 := hI.lens n b hb'
    have hw' := hw.ln b (List.mem_of_getElem? hb)
    unfold Blk.lenOk Blk.xs at h5 ⊢
    rw [denL_eq (hp := s0.ln) (α := α) (α' := α) (fun _ _ => rfl) hpx b.c hw', ← denL_eq (hp := s0.ln) (α := α) (α' := α) (fun _ _ => rfl) hp b.c hw']
    exact h5
end
end SX
end Go.Proofs.Ytklppgkolcpbbaa
