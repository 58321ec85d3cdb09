/-
  Texts behind the statement, part 4.
-/
import Derived.Test.YtdamlaegboiokaaDoorPG3
import Derived.Test.YtdamlaegboiokaaDoorPG1
set_option linter.unusedSimpArgs false
set_option linter.unusedVariables false
namespace Go.Proofs.YtdamlaegboiokaaDoor
open Go Go.RowKit
namespace SX
def rnd : List It → List TF → Option Nat
  | .code _ :: k, T => rnd k T
  | .inBlock _ :: k, T => rnd k T
  | .rounds _ _ :: k, T => rnd k T
  | .ops _ _ :: k, T => rnd k T
  | .again _ _ _ _ :: k, T => rnd k T
  | .beginR :: k, T => rnd k T
  | .endR _ _ _ _ :: _, _ :: c :: _ => c.lp.map (·.1)
  | _, _ => none
def LS.out : LS → Option Exit
  | .ret => some .ret
  | .exit id => some (.exit id)
  | _ => none
def lpOf : List TF → Option (Nat × Loop)
  | c :: _ => c.lp
  | [] => none
def wpK (P : Program) (R : Ending → World → Prop) : List It → List TF → List (Act → World → Prop) → Exit → Act → World → Prop
  | [], _, _ => fun _ _ _ => False
  | .top fn :: _, _, _ => endR P fn R
  | .code c :: k, T, J => Exit.then (wpR (rnd k T) P c (wpK P R k T J)) (wpK P R k T J)
  | .inBlock id :: k, T, J => Exit.inBlock id (wpK P R k T J)
  | .rounds c m :: k, T, J => Exit.then (roundsR (rnd k T) P c (wpK P R k T J) m) (wpK P R k T J)
  | .ops all rest :: k, T, J => Exit.then (wpLR (rnd k T) P all (wpK P R k T J) rest) (wpK P R k T J)
  | .back fn _ dst all rest :: k, t :: T, J => endR P fn fun e w' => ∃ v, e = .returned v ∧ wpLR (rnd k T) P all (wpK P R k T J) rest (({ tmps := t.t, defers := t.ds } : Act).put dst v) w'
  | .back _ _ _ _ _ :: _, [], _ => fun _ _ _ => False
  | .again _ _ _ _ :: k, T, j :: J => Exit.then j (wpK P R k T J)
  | .again _ _ _ _ :: _, _, [] => fun _ _ _ => False
  | .beginR :: k, T, J => Exit.then (fun a1 W1 => ∃ l r, lpOf T.tail = some (l, r) ∧ W1.heap[l]? = some (.loop r) ∧ wpK P R k T J .normal a1 (W1.putObj l (.loop { r with state := .busy }))) fun _ _ _ => False
  | .endR _ dst all rest :: k, t :: T, J => fun e a1 W1 => ∃ l r, lpOf T = some (l, r) ∧ roundR l r (fun v W => wpLR (rnd k T) P all (wpK P R k T J) rest (({ tmps := t.t, defers := t.ds } : Act).put dst v) W) e a1 W1
  | .endR _ _ _ _ :: _, [], _ => fun _ _ _ => False
  | .endl fn _ _ _ _ :: k, c :: T, J => endR P fn fun e W => ∃ l r v st pe, c.lp = some (l, r) ∧ e = .returned v ∧ st ≠ .busy ∧ W.heap[l]? = some (.loop { r with state := st, pending := pe }) ∧
      afterR P (wpK P R k T J) (markA r.defers { tmps := c.t, defers := c.ds }) (W.putObj l (.loop { r with state := .exhausted, pending := pe })) pe
  | .endl _ _ _ _ _ :: _, [], _ => fun _ _ _ => False
  | .jump j :: k, T, J => fun _ a1 W1 => ∃ e, j.out = some e ∧ wpK P R k T J e a1 W1
def Rel (w0 : Org) (ps : List (World → Prop)) (T0 : List TF) (L : List (Cx → List Value → Prop)) (ρ : List Value) : List It → List TF → List (Act → World → Prop) → Prop
  | [], _, _ => True
  | .back _ _ _ _ _ :: k, t :: T, J => t.lp = none ∧ Rel w0 ps T0 L ρ k T J
  | .back _ _ _ _ _ :: _, [], _ => False
  | .again l an ws s0 :: k, T, j :: J => (∃ (ρ0 : List Value) (A : Cx → List Value → Prop) (ps0 : List (World → Prop)), (∀ p ∈ ps0, p ∈ ps) ∧ L[l]? = some A ∧ ρ0 <+: ρ ∧ Good ρ0 s0 ∧ s0.Wf ρ0.length ∧ (∀ (n : Nat) (b : Blk), s0.hp[n]? = some (some b) → lv s0.ln n = true) ∧ (∀ q ∈ s0.lps, lv s0.ln q.1 = true) ∧ ∀ (C : Cx) ps' xs a W, Ctx C w0 ps' → (∀ p ∈ ps0, p ∈ ps') → A C xs → Sh.fitL (an.pos.map fun e => e.2.sh) xs = true → Inv w0 ps' T (ρ0 ++ xs) (freshS an ws s0) a W → j a W) ∧ Rel w0 ps T0 L ρ k T J
  | .again _ _ _ _ :: _, _, [] => False
  | .top _ :: _, T, _ => T = T0
  | .code _ :: k, T, J => Rel w0 ps T0 L ρ k T J
  | .inBlock _ :: k, T, J => Rel w0 ps T0 L ρ k T J
  | .rounds _ _ :: k, T, J => Rel w0 ps T0 L ρ k T J
  | .ops _ _ :: k, T, J => Rel w0 ps T0 L ρ k T J
  | .beginR :: k, T, J => (∃ it T', T = it :: T' ∧ it.lp = none ∧ (lpOf T').isSome = true) ∧ Rel w0 ps T0 L ρ k T J
  | .jump _ :: k, T, J => Rel w0 ps T0 L ρ k T J
  | .endR _ _ _ _ :: k, t :: T, J => t.lp = none ∧ (lpOf T).isSome = true ∧ Rel w0 ps T0 L ρ k T J
  | .endR _ _ _ _ :: _, [], _ => False
  | .endl fn _ ps' assign body :: k, c :: T, J => (∃ l r, c.lp = some (l, r) ∧ r.params = ps' ∧ r.assign = assign ∧ r.body = body) ∧ rnd k T = none ∧ Rel w0 ps T0 L ρ k T J
  | .endl _ _ _ _ _ :: _, [], _ => False
section
variable {P : Program} {R : Ending → World → Prop} {w0 : Org} {ps : List (World → Prop)} {T0 : List TF} {L L' : List (Cx → List Value → Prop)} {ρ ρ' : List Value}
theorem Rel.mono (hρ : ρ <+: ρ') (hL : L <+: L') : ∀ {k : List It} {T : List TF} {J : List (Act → World → Prop)}, Rel w0 ps T0 L ρ k T J → Rel w0 ps T0 L' ρ' k T J
  | [], _, _, _ => trivial
  | .back _ _ _ _ _ :: k, _ :: T, J, h => ⟨h.1, Rel.mono hρ hL (k := k) h.2⟩
  | .back _ _ _ _ _ :: _, [], _, h => h
  | .again l an ws s0 :: k, T, j :: J, ⟨⟨ρ0, A, ps0, h0, h1, h2, h3⟩, h⟩ => ⟨⟨ρ0, A, ps0, h0, by obtain ⟨r, rfl⟩ := hL; rw [List.getElem?_append_left (List.getElem?_eq_some_iff.1 h1).1]; exact h1, h2.trans hρ, h3⟩, Rel.mono hρ hL (k := k) h⟩
  | .again _ _ _ _ :: _, _, [], h => h
  | .top _ :: _, _, _, h => h
  | .code _ :: k, T, J, h => Rel.mono hρ hL (k := k) h
  | .inBlock _ :: k, T, J, h => Rel.mono hρ hL (k := k) h
  | .rounds _ _ :: k, T, J, h => Rel.mono hρ hL (k := k) h
  | .ops _ _ :: k, T, J, h => Rel.mono hρ hL (k := k) h
  | .beginR :: k, T, J, h => ⟨h.1, Rel.mono hρ hL (k := k) h.2⟩
  | .jump _ :: k, T, J, h => Rel.mono hρ hL (k := k) h
  | .endR _ _ _ _ :: k, _ :: T, J, h => ⟨h.1, h.2.1, Rel.mono hρ hL (k := k) h.2.2⟩
  | .endR _ _ _ _ :: _, [], _, h => h
  | .endl _ _ _ _ _ :: k, _ :: T, J, h => ⟨h.1, h.2.1, Rel.mono hρ hL (k := k) h.2.2⟩
  | .endl _ _ _ _ _ :: _, [], _, h => h
theorem Rel.psm {ps' : List (World → Prop)} (hp : ∀ p ∈ ps, p ∈ ps') : ∀ {k : List It} {T : List TF} {J : List (Act → World → Prop)}, Rel w0 ps T0 L ρ k T J → Rel w0 ps' T0 L ρ k T J
  | [], _, _, _ => trivial
  | .back _ _ _ _ _ :: k, _ :: T, J, h => ⟨h.1, Rel.psm hp (k := k) h.2⟩
  | .back _ _ _ _ _ :: _, [], _, h => h
  | .again l an ws s0 :: k, T, j :: J, ⟨⟨ρ0, A, ps0, h0, h3⟩, h⟩ => ⟨⟨ρ0, A, ps0, fun p hq => hp p (h0 p hq), h3⟩, Rel.psm hp (k := k) h⟩
  | .again _ _ _ _ :: _, _, [], h => h
  | .top _ :: _, _, _, h => h
  | .code _ :: k, T, J, h => Rel.psm hp (k := k) h
  | .inBlock _ :: k, T, J, h => Rel.psm hp (k := k) h
  | .rounds _ _ :: k, T, J, h => Rel.psm hp (k := k) h
  | .ops _ _ :: k, T, J, h => Rel.psm hp (k := k) h
  | .beginR :: k, T, J, h => ⟨h.1, Rel.psm hp (k := k) h.2⟩
  | .jump _ :: k, T, J, h => Rel.psm hp (k := k) h
  | .endR _ _ _ _ :: k, _ :: T, J, h => ⟨h.1, h.2.1, Rel.psm hp (k := k) h.2.2⟩
  | .endR _ _ _ _ :: _, [], _, h => h
  | .endl _ _ _ _ _ :: k, _ :: T, J, h => ⟨h.1, h.2.1, Rel.psm hp (k := k) h.2.2⟩
  | .endl _ _ _ _ _ :: _, [], _, h => h
theorem unwind_ok {id : Nat} : ∀ {k k' : List It} {T : List TF} {J : List (Act → World → Prop)}, unwindTo id k = some k' → Rel w0 ps T0 L ρ k T J → ∃ J', Rel w0 ps T0 L ρ k' T J' ∧ ∀ a W, wpK P R k' T J' .normal a W → wpK P R k T J (.exit id) a W
  | [], _, _, _, h, _ => by simp [unwindTo] at h
  | .back _ _ _ _ _ :: k, _, _, _, h, _ => by simp [unwindTo] at h
  | .top _ :: k, _, _, _, h, _ => by simp [unwindTo] at h
  | .ops _ _ :: k, _, _, _, h, _ => by simp [unwindTo] at h
  | .beginR :: k, _, _, _, h, _ => by simp [unwindTo] at h
  | .endR _ _ _ _ :: k, _, _, _, h, _ => by simp [unwindTo] at h
  | .endl _ _ _ _ _ :: k, _, _, _, h, _ => by simp [unwindTo] at h
  | .jump _ :: k, _, _, _, h, _ => by simp [unwindTo] at h
  | .again l an ws s0 :: k, k', T, [], h, hr => hr.elim
  | .again l an ws s0 :: k, k', T, j :: J, h, hr => by
    obtain ⟨J', h1, h2⟩ := unwind_ok (k := k) (k' := k') (T := T) (J := J) (by simpa [unwindTo] using h) hr.2
    exact ⟨J', h1, fun a W hw => h2 a W hw⟩
  | .code _ :: k, k', T, J, h, hr => by
    obtain ⟨J', h1, h2⟩ := unwind_ok (k := k) (k' := k') (T := T) (J := J) (by simpa [unwindTo] using h) hr
    exact ⟨J', h1, fun a W hw => h2 a W hw⟩
  | .rounds _ _ :: k, k', T, J, h, hr => by
    obtain ⟨J', h1, h2⟩ := unwind_ok (k := k) (k' := k') (T := T) (J := J) (by simpa [unwindTo] using h) hr
    exact ⟨J', h1, fun a W hw => h2 a W hw⟩
  | .inBlock id' :: k, k', T, J, h, hr => by
    unfold unwindTo at h
    split at h
    · rename_i hid
      subst hid
      obtain rfl : k = k' := by simpa using h
      exact ⟨J, hr, fun a W hw => by simp only [wpK, Exit.inBlock, if_true]; exact hw⟩
    rename_i hid
    obtain ⟨J', h1, h2⟩ := unwind_ok (k := k) (k' := k') (T := T) (J := J) h hr
    exact ⟨J', h1, fun a W hw => by simp only [wpK, Exit.inBlock, if_neg hid]; exact h2 a W hw⟩
theorem ret_ok : ∀ {k k' : List It} {T : List TF} {J : List (Act → World → Prop)}, retTo k = some k' → Rel w0 ps T0 L ρ k T J → ∃ J', Rel w0 ps T0 L ρ k' T J' ∧ ∀ a W, wpK P R k' T J' .normal a W → wpK P R k T J .ret a W
  | [], _, _, _, h, _ => by simp [retTo] at h
  | .back f c d a r :: k, k', t :: T, J, h, hr => by
    obtain rfl : It.back f c d a r :: k = k' := by simpa [retTo] using h
    exact ⟨J, hr, fun a W hw => hw⟩
  | .back f c d a r :: k, k', [], J, h, hr => hr.elim
  | .endl f c d a r :: k, k', t :: T, J, h, hr => by
    obtain rfl : It.endl f c d a r :: k = k' := by simpa [retTo] using h
    exact ⟨J, hr, fun a W hw => hw⟩
  | .endl f c d a r :: k, k', [], J, h, hr => hr.elim
  | .top f :: k, k', T, J, h, hr => by
    obtain rfl : It.top f :: k = k' := by simpa [retTo] using h
    exact ⟨J, hr, fun a W hw => hw⟩
  | .ops _ _ :: k, _, _, _, h, _ => by simp [retTo] at h
  | .beginR :: k, _, _, _, h, _ => by simp [retTo] at h
  | .endR _ _ _ _ :: k, _, _, _, h, _ => by simp [retTo] at h
  | .jump _ :: k, _, _, _, h, _ => by simp [retTo] at h
  | .again l an ws s0 :: k, k', T, [], h, hr => hr.elim
  | .again l an ws s0 :: k, k', T, j :: J, h, hr => by
    obtain ⟨J', h1, h2⟩ := ret_ok (k := k) (k' := k') (T := T) (J := J) (by simpa [retTo] using h) hr.2
    exact ⟨J', h1, fun a W hw => h2 a W hw⟩
  | .code _ :: k, k', T, J, h, hr => by
    obtain ⟨J', h1, h2⟩ := ret_ok (k := k) (k' := k') (T := T) (J := J) (by simpa [retTo] using h) hr
    exact ⟨J', h1, fun a W hw => h2 a W hw⟩
  | .rounds _ _ :: k, k', T, J, h, hr => by
    obtain ⟨J', h1, h2⟩ := ret_ok (k := k) (k' := k') (T := T) (J := J) (by simpa [retTo] using h) hr
    exact ⟨J', h1, fun a W hw => h2 a W hw⟩
  | .inBlock _ :: k, k', T, J, h, hr => by
    obtain ⟨J', h1, h2⟩ := ret_ok (k := k) (k' := k') (T := T) (J := J) (by simpa [retTo] using h) hr
    exact ⟨J', h1, fun a W hw => h2 a W hw⟩
theorem leave_ret : ∀ {k k' : List It} {T : List TF} {J : List (Act → World → Prop)}, leaveR k = some k' → Rel w0 ps T0 L ρ k T J → ∃ J', Rel w0 ps T0 L ρ k' T J' ∧ ∀ a W, wpK P R k' T J' .ret a W → wpK P R k T J .ret a W
  | [], _, _, _, h, _ => by simp [leaveR] at h
  | .back _ _ _ _ _ :: k, _, _, _, h, _ => by simp [leaveR] at h
  | .top _ :: k, _, _, _, h, _ => by simp [leaveR] at h
  | .ops _ _ :: k, _, _, _, h, _ => by simp [leaveR] at h
  | .beginR :: k, _, _, _, h, _ => by simp [leaveR] at h
  | .endl _ _ _ _ _ :: k, _, _, _, h, _ => by simp [leaveR] at h
  | .jump _ :: k, _, _, _, h, _ => by simp [leaveR] at h
  | .endR c d a r :: k, k', T, J, h, hr => by
    obtain rfl : It.endR c d a r :: k = k' := by simpa [leaveR] using h
    exact ⟨J, hr, fun a W hw => hw⟩
  | .again l an ws s0 :: k, k', T, [], h, hr => hr.elim
  | .again l an ws s0 :: k, k', T, j :: J, h, hr => by
    obtain ⟨J', h1, h2⟩ := leave_ret (k := k) (k' := k') (T := T) (J := J) (by simpa [leaveR] using h) hr.2
    exact ⟨J', h1, fun a W hw => h2 a W hw⟩
  | .code _ :: k, k', T, J, h, hr => by
    obtain ⟨J', h1, h2⟩ := leave_ret (k := k) (k' := k') (T := T) (J := J) (by simpa [leaveR] using h) hr
    exact ⟨J', h1, fun a W hw => h2 a W hw⟩
  | .rounds _ _ :: k, k', T, J, h, hr => by
    obtain ⟨J', h1, h2⟩ := leave_ret (k := k) (k' := k') (T := T) (J := J) (by simpa [leaveR] using h) hr
    exact ⟨J', h1, fun a W hw => h2 a W hw⟩
  | .inBlock _ :: k, k', T, J, h, hr => by
    obtain ⟨J', h1, h2⟩ := leave_ret (k := k) (k' := k') (T := T) (J := J) (by simpa [leaveR] using h) hr
    exact ⟨J', h1, fun a W hw => h2 a W hw⟩
theorem leave_exit {id : Nat} : ∀ {k k' : List It} {T : List TF} {J : List (Act → World → Prop)}, leaveR k = some k' → unwindTo id k = none → Rel w0 ps T0 L ρ k T J → ∃ J', Rel w0 ps T0 L ρ k' T J' ∧ ∀ a W, wpK P R k' T J' (.exit id) a W → wpK P R k T J (.exit id) a W
  | [], _, _, _, h, _, _ => by simp [leaveR] at h
  | .back _ _ _ _ _ :: k, _, _, _, h, _, _ => by simp [leaveR] at h
  | .top _ :: k, _, _, _, h, _, _ => by simp [leaveR] at h
  | .ops _ _ :: k, _, _, _, h, _, _ => by simp [leaveR] at h
  | .beginR :: k, _, _, _, h, _, _ => by simp [leaveR] at h
  | .endl _ _ _ _ _ :: k, _, _, _, h, _, _ => by simp [leaveR] at h
  | .jump _ :: k, _, _, _, h, _, _ => by simp [leaveR] at h
  | .endR c d a r :: k, k', T, J, h, _, hr => by
    obtain rfl : It.endR c d a r :: k = k' := by simpa [leaveR] using h
    exact ⟨J, hr, fun a W hw => hw⟩
  | .again l an ws s0 :: k, k', T, [], h, _, hr => hr.elim
  | .again l an ws s0 :: k, k', T, j :: J, h, hu, hr => by
    obtain ⟨J', h1, h2⟩ := leave_exit (k := k) (k' := k') (T := T) (J := J) (by simpa [leaveR] using h) (by simpa [unwindTo] using hu) hr.2
    exact ⟨J', h1, fun a W hw => h2 a W hw⟩
  | .code _ :: k, k', T, J, h, hu, hr => by
    obtain ⟨J', h1, h2⟩ := leave_exit (k := k) (k' := k') (T := T) (J := J) (by simpa [leaveR] using h) (by simpa [unwindTo] using hu) hr
    exact ⟨J', h1, fun a W hw => h2 a W hw⟩
  | .rounds _ _ :: k, k', T, J, h, hu, hr => by
    obtain ⟨J', h1, h2⟩ := leave_exit (k := k) (k' := k') (T := T) (J := J) (by simpa [leaveR] using h) (by simpa [unwindTo] using hu) hr
    exact ⟨J', h1, fun a W hw => h2 a W hw⟩
  | .inBlock id' :: k, k', T, J, h, hu, hr => by
    unfold unwindTo at hu
    split at hu
    · cases hu
    rename_i hid
    obtain ⟨J', h1, h2⟩ := leave_exit (k := k) (k' := k') (T := T) (J := J) (by simpa [leaveR] using h) hu hr
    exact ⟨J', h1, fun a W hw => by simp only [wpK, Exit.inBlock, if_neg hid]; exact h2 a W hw⟩
theorem endl_ok : ∀ {k : List It} {T : List TF} {J : List (Act → World → Prop)} {cur : FuncId} {ps' : Array Tmp} {assign body : Code}, endlOf k = some (cur, ps', assign, body) → Rel w0 ps T0 L ρ k T J → rnd k T = none ∧ ∃ c T' l r, T = c :: T' ∧ c.lp = some (l, r) ∧ r.params = ps' ∧ r.assign = assign ∧ r.body = body
  | [], _, _, _, _, _, _, h, _ => by simp [endlOf] at h
  | .back _ _ _ _ _ :: k, _, _, _, _, _, _, h, _ => by simp [endlOf] at h
  | .top _ :: k, _, _, _, _, _, _, h, _ => by simp [endlOf] at h
  | .ops _ _ :: k, _, _, _, _, _, _, h, _ => by simp [endlOf] at h
  | .beginR :: k, _, _, _, _, _, _, h, _ => by simp [endlOf] at h
  | .endR _ _ _ _ :: k, _, _, _, _, _, _, h, _ => by simp [endlOf] at h
  | .jump _ :: k, _, _, _, _, _, _, h, _ => by simp [endlOf] at h
  | .endl f c p x y :: k, T, J, cur, ps', assign, body, h, hr => by
    simp only [endlOf, Option.some.injEq, Prod.mk.injEq] at h
    obtain ⟨rfl, rfl, rfl, rfl⟩ := h
    cases T with
    | nil => exact hr.elim
    | cons t T =>
      obtain ⟨⟨l, r, h1, h2, h3, h4⟩, _⟩ := hr
      exact ⟨rfl, t, T, l, r, rfl, h1, h2, h3, h4⟩
  | .again l an ws s0 :: k, T, [], _, _, _, _, h, hr => hr.elim
  | .again l an ws s0 :: k, T, j :: J, _, _, _, _, h, hr => endl_ok (k := k) (T := T) (J := J) (by simpa [endlOf] using h) hr.2
  | .code _ :: k, T, J, _, _, _, _, h, hr => endl_ok (k := k) (T := T) (J := J) (by simpa [endlOf] using h) hr
  | .rounds _ _ :: k, T, J, _, _, _, _, h, hr => endl_ok (k := k) (T := T) (J := J) (by simpa [endlOf] using h) hr
  | .inBlock _ :: k, T, J, _, _, _, _, h, hr => endl_ok (k := k) (T := T) (J := J) (by simpa [endlOf] using h) hr
theorem rnd_plain : ∀ {k : List It} {T : List TF}, plainK k = true → rnd k T = none
  | [], _, h => by simp [plainK] at h
  | .back _ _ _ _ _ :: k, _, _ => rfl
  | .top _ :: k, _, _ => rfl
  | .ops _ _ :: k, _, h => by simp [plainK] at h
  | .beginR :: k, _, h => by simp [plainK] at h
  | .endl _ _ _ _ _ :: k, _, _ => rfl
  | .jump _ :: k, _, _ => rfl
  | .endR _ _ _ _ :: k, _, h => by simp [plainK] at h
  | .again _ _ _ _ :: k, T, h => by simp only [rnd]; exact rnd_plain (by simpa [plainK] using h)
  | .code _ :: k, T, h => by simp only [rnd]; exact rnd_plain (by simpa [plainK] using h)
  | .rounds _ _ :: k, T, h => by simp only [rnd]; exact rnd_plain (by simpa [plainK] using h)
  | .inBlock _ :: k, T, h => by simp only [rnd]; exact rnd_plain (by simpa [plainK] using h)
end
section
variable {C : Cx} {w0 : Org} {ps : List (World → Prop)} {T : List TF} {ρ : List Value} {s : S} {a : Act} {W : World} {α : Nat → AV}
def res1 (tmps : Array Value) : ResultVar → Sem Value
  | .tmp t => pure (tmps.getD t undef)
  | .cell a t => do loadVar t (← asAddr (tmps.getD a undef))
theorem results_eq (fn : Func) (tmps : Array Value) : results fn tmps = (do
    let vs ← fn.results.mapM (res1 tmps)
    pure (if h : vs.size = 1 then vs[0] else .tuple vs)) := rfl
theorem res1_ok (hI : InvA w0 ps T ρ s a W α) {r : ResultVar} {v : V} (h : resOf1 C.P s r = some v) : (res1 a.tmps r).run C.P W = .ok (v.den ρ α) W := by
  cases r with
  | tmp t =>
    have := look_den hI.good hI.fm (d := t) h
    simp [res1, Array.getD_eq_getD_getElem?, this]
  | cell p t =>
    unfold resOf1 at h
    dsimp only at h
    split at h
    · rename_i n o hp
      have hp' := look_den hI.good hI.fm hp
      have hb' : ∀ b, ((s.hp[n]?).join).bind cellsB = some b → s.hp[n]? = some (some b) ∧ b.k = .cells := fun b hb => by
        obtain ⟨b0, hb2, hb0⟩ := Option.bind_eq_some_iff.1 hb
        obtain ⟨e, hk⟩ := cellsB_eq hb0
        subst e
        refine ⟨?_, hk⟩
        cases hq : s.hp[n]? with
        | none => simp [hq] at hb2
        | some u => simp [hq] at hb2; rw [hb2]
      split at h
      · rename_i b sz hb hr hs
        split at h
        · rename_i hlt
          obtain rfl := by simpa using h
          have hm := hI.st.at_ (hI.blk (hb' b hb).1 (hb' b hb).2)
          have := run_load_sub (P := C.P) (off := o) (n := sz) hm hr hs (by simpa [denL_len] using hlt)
          simp only [res1, Array.getD_eq_getD_getElem?, hp', Option.getD_some, V.den, asAddr, Sem.run_bind, Sem.run_pure, Result.andThen_ok, this]
          rw [ext_eq, denL_drop]
        cases h
      · rename_i b hb hr
        have hm := hI.st.at_ (hI.blk (hb' b hb).1 (hb' b hb).2)
        have := run_load_one (P := C.P) (off := o) (v := v.den ρ α) hm hr (by simpa using denL_at (ρ := ρ) (α := α) h)
        simp only [res1, Array.getD_eq_getD_getElem?, hp', Option.getD_some, V.den, asAddr, Sem.run_bind, Sem.run_pure, Result.andThen_ok, this]
      cases h
    cases h
end
section
variable {C : Cx} {w0 : Org} {ps : List (World → Prop)} {T T0 : List TF} {ρ : List Value} {s : S} {a : Act} {W : World} {α : Nat → AV} {R : Ending → World → Prop} {L : List (Cx → List Value → Prop)}
theorem InvA.pput (hI : InvA w0 ps T ρ s a W α) {p : Pos} {u v : V} (hg : p.get s = some u) (hd : v.den ρ α = u.den ρ α) (hw : v.wf s.ln ρ.length = true) : InvA w0 ps T ρ (p.put s v) a W α := by
  cases p with
  | s d =>
    have hl := look_den hI.good hI.fm hg
    refine ⟨hI.defers, ⟨hI.good.len, hI.good.fit, hI.good.kn⟩, ⟨fun x hx => ?_, hI.wf.stk, hI.wf.hp, hI.wf.ln⟩, ⟨by simp [Pos.put, hI.fm.1], fun d' x hx => ?_⟩, hI.fms, hI.st, hI.rows, hI.lens⟩
    · rcases mem_set hx with h | h
      · obtain rfl : x = v := by simpa using h
        exact hw
      exact hI.wf.fr x h
    simp only [Pos.put, List.getElem?_set] at hx
    split at hx
    · rename_i e
      subst e
      split at hx
      · obtain rfl : v = x := by simpa using hx
        rw [hl, hd]
      cases hx
    exact hI.fm.2 d' x hx
  | c n k =>
    simp only [Pos.get] at hg
    obtain ⟨b, hb, hk⟩ := Option.bind_eq_some_iff.1 hg
    obtain ⟨b0, hb0, hb1⟩ := Option.bind_eq_some_iff.1 hb
    obtain ⟨rfl, hbk⟩ := cmB_eq hb1
    have hn := join_some hb0
    have hput : (Pos.c n k).put s v = { s with hp := s.hp.set n (some ⟨b0.c.set k v, b0.t, b0.k⟩) } := by simp only [Pos.put, hb]
    rw [hput]
    have hden : denL ρ α (b0.c.set k v) = denL ρ α b0.c := by
      apply List.ext_getElem?
      intro i
      rw [denL_map, denL_map, List.getElem?_map, List.getElem?_map, List.getElem?_set]
      split
      · rename_i e
        subst e
        split
        · rw [hk]; simp [hd]
        rename_i hlt
        rw [List.getElem?_eq_none (by omega)]
      rfl
    have hch : ∀ m, (⟨b0.c.set k v, b0.t, b0.k⟩ : Blk).ch ρ α m = b0.ch ρ α m := fun m => by rcases hbk with hbk | ⟨k9, ag9, hbk⟩ <;> simp only [Blk.ch, Blk.xs, hbk, hden]
    have hc : chs ρ α 0 (s.hp.set n (some ⟨b0.c.set k v, b0.t, b0.k⟩)) = chs ρ α 0 s.hp := by
      obtain ⟨l1, l2, q1, q2⟩ := chs_split (ρ := ρ) (α := α) (k := 0) hn
      rw [q2, q1]
      simp only [Option.bind_some, hch]
    refine ⟨hI.defers, ⟨hI.good.len, hI.good.fit, hI.good.kn⟩, ⟨hI.wf.fr, hI.wf.stk, fun d hd' => ?_, hI.wf.ln⟩, hI.fm, hI.fms, ?_, fun m c hm => ?_, hI.lens⟩
    · rcases mem_set hd' with h | h
      · obtain rfl : d = ⟨b0.c.set k v, b0.t, b0.k⟩ := by simpa using h
        refine wfL_of fun x hx => ?_
        rcases List.mem_or_eq_of_mem_set hx with h | h
        · exact wfL_mem (hI.wf.hp b0 (List.mem_of_getElem? hn)) x h
        subst h; exact hw
      exact hI.wf.hp d h
    · show St w0 (chs ρ α 0 (s.hp.set n (some ⟨b0.c.set k v, b0.t, b0.k⟩))) (osA a s T) _ W
      rw [hc]
      refine st_ps hI.st (app_sub (exs_sub fun m c hm => ?_))
      rcases set_cases hm with ⟨rfl, rfl⟩ | ⟨_, h⟩
      · exact .inl (by rcases hbk with hbk | ⟨k9, ag9, hbk⟩ <;> simp [Blk.own, hbk])
      exact .inr ⟨c, h, rfl⟩
    rcases set_cases hm with ⟨rfl, rfl⟩ | ⟨_, h⟩
    · exact ⟨hI.live _ _ hn, by rcases hbk with hbk | ⟨k9, ag9, hbk⟩ <;> simp [Blk.rowOk, hbk]⟩
    exact hI.rows m c h
theorem get_make {p : Pos} {u : V} {sh : List Sh} {b : Blk} (hg : p.get s = some u) : p.get ({ (s.room 1) with sh := sh }.make s.hp.length b) = some u := by
  cases p with
  | s d => exact hg
  | c n k =>
    simp only [Pos.get] at hg ⊢
    obtain ⟨b1, hb, hk⟩ := Option.bind_eq_some_iff.1 hg
    obtain ⟨b0, hb0, hb1⟩ := Option.bind_eq_some_iff.1 hb
    have hn := join_some hb0
    have hlt := (List.getElem?_eq_some_iff.1 hn).1
    have : ({ (s.room 1) with sh := sh }.make s.hp.length b).hp[n]? = some (some b0) := by
      simp only [S.make, S.room]
      rw [List.getElem?_set_ne (by omega), List.getElem?_append_left hlt]
      exact hn
    rw [this]
    simp only [Option.join_some, Option.bind_some, hb1, hk]
theorem freeAt_in {s : S} {n : Nat} (h : freeAt s n = true) : freeIn s n := by
  unfold freeAt at h
  split at h
  · exact ⟨by assumption, by assumption⟩
  cases h
theorem lv_made {s : S} {n : Nat} {b : Blk} (h : freeIn s n) : lv (s.ln.set n (some b)) n = true := by
  refine lv_iff.2 ⟨b, ?_⟩
  rw [List.getElem?_set, if_pos rfl, if_pos (List.getElem?_eq_some_iff.1 h.2).1]
theorem settle_ok (hps : Ctx C w0 ps) {Gl : Prop} : ∀ (l : List (Pos × HK)) (s : S) (ρ : List Value) (k : S → Tree), VC C w0 ps T0 R L ρ (settle s l k) → Inv w0 ps T ρ s a W → (∀ s' ρ', VC C w0 ps T0 R L ρ' (k s') → ρ <+: ρ' → Inv w0 ps T ρ' s' a W → Gl) → Gl
  | [], s, ρ, k, hv, hI, h => h s ρ hv (List.prefix_refl _) hI
  | (p, .one) :: l, s, ρ, k, hv, hI, h => settle_ok hps l s ρ k (by simpa only [settle] using hv) hI h
  | (p, .ag n) :: l, s, ρ, k, hv, hI, h => settle_ok hps l s ρ k (by simpa only [settle] using hv) hI h
  | (p, .any) :: l, s, ρ, k, hv, hI, h => settle_ok hps l s ρ k (by simpa only [settle] using hv) hI h
  | (p, .row sz e) :: l, s, ρ, k, hv, hI, h => by
    simp only [settle] at hv
    split at hv
    · rename_i hg
      split at hv
      · rename_i hc
        simp only [Bool.and_eq_true, decide_eq_true_eq] at hc
        obtain ⟨α, hA⟩ := hI
        obtain ⟨α', h1, h2, h3⟩ := (hA.room 1).new' (b := ⟨[], e, .row sz⟩) (freeAt_in hc.2) rfl (W' := W) ⟨0, .slice none 0 0, []⟩ fun α' q1 q2 q3 q4 => by
          refine ⟨?_, hc.1, .inl ⟨rfl, by rw [q1]⟩⟩
          rw [chs_new0 (k := 0) (freeAt_in hc.2).1 (by simp only [Blk.ch, Nat.zero_add, q1]), q4]
          exact (hA.room 1).st
        have h4 := h3.pput (p := p) (u := .k (.slice none 0 0)) (v := .row s.hp.length) (get_make (s := s) (sh := s.sh) hg) (by simp only [V.den, h1]) (by
          show lv ((s.room 1).ln.set s.hp.length _) s.hp.length = true
          exact lv_made (freeAt_in hc.2))
        exact settle_ok hps l _ ρ k hv ⟨α', h4⟩ h
      simp [VC] at hv
    exact settle_ok hps l s ρ k hv hI h
  | (p, .ext sz) :: l, s, ρ, k, hv, hI, h => by
    simp only [settle] at hv
    split at hv
    · rename_i i q hg
      split at hv
      · rename_i hc
        simp only [Bool.and_eq_true, decide_eq_true_eq] at hc
        obtain ⟨⟨h0, hi⟩, hfr⟩ := hc
        simp only [VC] at hv
        obtain ⟨v, hrel, hfit, hv⟩ := hv.resolve_right fun ⟨_, _, hq, _⟩ => False.elim (hq fun _ => default)
        obtain ⟨α, hA⟩ := hI
        obtain ⟨cells, ⟨A, n, c, hx, hnc⟩, hK, hAl, rfl⟩ := hrel α
        have hA1 := (hA.room 1).ext (h := .any) (v := .agg cells.toArray) rfl
        have hKf : ∀ W2, Same (muts (chs (ρ ++ [.agg cells.toArray]) α 0 (s.room 1).hp) (osA a s T)) W W2 → Kf C W2 := fun W2 h2 => hA1.st.pers _ (List.mem_append.2 (.inr hps.1)) W2 h2
        have hsl : (ρ ++ [Value.agg cells.toArray]).getD s.sh.length undef = Value.agg cells.toArray := by rw [hA.good.len]; simp
        have hxs : (⟨[.x s.sh.length []], 0, .ext sz⟩ : Blk).xs (ρ ++ [.agg cells.toArray]) α = cells := by
          simp only [Blk.xs, denL, V.den, List.foldl_nil, hsl, List.flatMap_cons, List.flatMap_nil, cellsV, List.append_nil]
        have hrd : ∀ W2, C.K (.slice A n c) sz cells → Kf C W2 → Arg.rd W2 ⟨.slice A n c, sz, cells⟩ := fun W2 h1 h2 => h2 _ _ _ h1
        rw [hx] at hK hAl
        have hR := hrd W hK (hA.fact hps.1)
        have hR' : Rd W sz A n cells := hR.1
        obtain ⟨α', h1, h2, h3⟩ := hA1.newE (b := ⟨[.x s.sh.length []], 0, .ext sz⟩) (freeAt_in hfr) rfl (by
          simp only [wfL, V.wf, Bool.and_true, decide_eq_true_eq, List.length_append, List.length_cons, List.length_nil]
          rw [hA.good.len]; omega) (W' := W) ⟨0, .slice A n c, []⟩ hA1.st h0 ⟨A, n, c, rfl, by rw [hxs]; exact hR'.1, hnc, fun hn => by
            obtain ⟨ad, e, _⟩ := hR'.2 hn
            rw [e]; rfl⟩ fun W2 h2 => by
            rw [hxs]
            exact ⟨hrd W2 hK (hKf W2 h2), .inr ⟨fun W3 h3 => hps.2.1 W3 h3 _ _ _ hAl, fun B hB => hps.2.2.1 B hB _ _ _ hAl⟩⟩
        have hwfx : (V.x i q).wf s.ln ρ.length = true := by
          simp only [V.wf, decide_eq_true_eq]; rw [← hA.good.len]; exact hi
        have h4 := h3.pput (p := p) (u := .x i q) (v := .row s.hp.length) (get_make (s := s) (sh := s.sh ++ [.any]) hg) (by
          simp only [V.den, h1]
          rw [← hx]
          have := den_pre (ρ0 := ρ) (ρ := ρ ++ [.agg cells.toArray]) (α := α) ⟨_, rfl⟩ hwfx
          simp only [V.den] at this
          exact this.symm) (by
          show lv ((s.room 1).ln.set s.hp.length _) s.hp.length = true
          exact lv_made (freeAt_in hfr))
        exact settle_ok hps l _ _ k hv ⟨α', h4⟩ fun s' ρ' g1 g2 g3 => h s' ρ' g1 (List.IsPrefix.trans ⟨_, rfl⟩ g2) g3
      simp [VC] at hv
    · rename_i c hg
      split at hv
      · rename_i hc
        simp only [Bool.and_eq_true, decide_eq_true_eq] at hc
        obtain ⟨α, hA⟩ := hI
        have hrd : ∀ W3, Arg.rd W3 ⟨.slice none 0 c, sz, []⟩ := fun W3 => rd_empty
        obtain ⟨α', h1, h2, h3⟩ := (hA.room 1).newE (b := ⟨[], 0, .ext sz⟩) (freeAt_in hc.2) rfl rfl (W' := W) ⟨0, .slice none 0 c, []⟩ (hA.room 1).st hc.1 ⟨none, 0, c, rfl, by simp [Blk.xs, denL], Nat.zero_le _, fun h => absurd h (by omega)⟩ fun W2 h2 => ⟨hrd W2, .inr ⟨fun W3 _ => hrd W3, fun B _ ad n c e _ => by cases e⟩⟩
        have h4 := h3.pput (p := p) (u := .k (.slice none 0 c)) (v := .row s.hp.length) (get_make (s := s) (sh := s.sh) hg) (by simp only [V.den, h1]) (by
          show lv ((s.room 1).ln.set s.hp.length _) s.hp.length = true
          exact lv_made (freeAt_in hc.2))
        exact settle_ok hps l _ ρ k hv ⟨α', h4⟩ h
      simp [VC] at hv
    exact settle_ok hps l s ρ k hv hI h
end
end SX
namespace SX
def appS (base : Nat) (c : Nat → Bool) : Nat → List (Oper × Done) → S → S
  | _, [], s => s
  | i, (o, d) :: l, s => appS base c (i + 1) l (if c i then s.eff (base + i) o.dst d.v d.new d.wr else s)
structure AgreeAt (slots names snames : List Nat) (s s' : S) : Prop where
  fr : ∀ x ∈ slots, s.fr[x]? = s'.fr[x]?
  hp : ∀ n ∈ names, s.hp[n]? = s'.hp[n]?
  ln : ∀ n ∈ snames, s.ln[n]? = s'.ln[n]?
structure Same0 (s s' : S) : Prop where
  sh : s.sh = s'.sh
  kn : s.kn = s'.kn
  stk : s.stk = s'.stk
  cur : s.cur = s'.cur
  frl : s.fr.length = s'.fr.length
  hpl : s.hp.length = s'.hp.length
  lnl : s.ln.length = s'.ln.length
  lps : s.lps = s'.lps
theorem Same0.refl (s : S) : Same0 s s := ⟨rfl, rfl, rfl, rfl, rfl, rfl, rfl, rfl⟩
theorem Same0.trans {a b c : S} (h : Same0 a b) (h' : Same0 b c) : Same0 a c := ⟨h.1.trans h'.1, h.2.trans h'.2, h.3.trans h'.3, h.4.trans h'.4, h.5.trans h'.5, h.6.trans h'.6, h.7.trans h'.7, h.8.trans h'.8⟩
theorem Same0.symm {a b : S} (h : Same0 a b) : Same0 b a := ⟨h.1.symm, h.2.symm, h.3.symm, h.4.symm, h.5.symm, h.6.symm, h.7.symm, h.8.symm⟩
theorem put_same0 (s : S) (d : Option Tmp) (v : V) : Same0 (s.put d v) s := by
  cases d <;> exact ⟨rfl, rfl, rfl, rfl, by simp [S.put], rfl, rfl, rfl⟩
theorem lay_same0 (s : S) (n : Nat) (b : Blk) : Same0 (s.lay n b) s := ⟨rfl, rfl, rfl, rfl, rfl, by simp [S.lay], rfl, rfl⟩
theorem make_same0 (s : S) (n : Nat) (b : Blk) : Same0 (s.make n b) s := ⟨rfl, rfl, rfl, rfl, rfl, by simp [S.make], by simp [S.make], rfl⟩
theorem eff_same0 (s : S) (nm : Nat) (d : Option Tmp) (v : V) (new : Option Blk) (wr : Option (Nat × Blk)) : Same0 (s.eff nm d v new wr) s := by
  unfold S.eff
  refine (put_same0 _ _ _).trans ?_
  cases wr <;> cases new <;> dsimp only
  · exact .refl _
  · exact make_same0 _ _ _
  · exact lay_same0 _ _ _
  exact (lay_same0 _ _ _).trans (make_same0 _ _ _)
theorem appS_same0 (base : Nat) (c : Nat → Bool) : ∀ (l : List (Oper × Done)) (i : Nat) (s : S), Same0 (appS base c i l s) s
  | [], _, s => .refl s
  | (o, d) :: l, i, s => by
    unfold appS
    refine (appS_same0 base c l (i + 1) _).trans ?_
    split
    · exact eff_same0 ..
    exact .refl s
theorem eff_fr (s : S) (nm : Nat) (d : Option Tmp) (v : V) (new : Option Blk) (wr : Option (Nat × Blk)) : (s.eff nm d v new wr).fr = (s.put d v).fr := by
  unfold S.eff
  cases wr <;> cases new <;> cases d <;> rfl
def layO (hp : List (Option Blk)) : Option (Nat × Blk) → List (Option Blk)
  | some (n, b) => hp.set n (some b)
  | none => hp
theorem eff_hp (s : S) (nm : Nat) (d : Option Tmp) (v : V) (new : Option Blk) (wr : Option (Nat × Blk)) : (s.eff nm d v new wr).hp = layO (layO s.hp (new.map fun b => (nm, b))) wr := by
  unfold S.eff
  cases wr <;> cases new <;> cases d <;> rfl
theorem eff_ln (s : S) (nm : Nat) (d : Option Tmp) (v : V) (new : Option Blk) (wr : Option (Nat × Blk)) : (s.eff nm d v new wr).ln = layO s.ln (new.map fun b => (nm, b)) := by
  unfold S.eff
  cases wr <;> cases new <;> cases d <;> rfl
theorem layO_other {hp : List (Option Blk)} {e : Option (Nat × Blk)} {n : Nat} (h : n ∉ (match e with | some (m, _) => [m] | none => [])) : (layO hp e)[n]? = hp[n]? := by
  cases e with
  | none => rfl
  | some e =>
    simp only [List.mem_singleton] at h
    simp [layO, List.getElem?_set_ne (fun e => h e.symm)]
theorem layO_len (hp : List (Option Blk)) (e : Option (Nat × Blk)) : (layO hp e).length = hp.length := by cases e <;> simp [layO]
theorem layO_at {hp hp' : List (Option Blk)} (hl : hp.length = hp'.length) {e : Option (Nat × Blk)} {n : Nat} (h : hp[n]? = hp'[n]? ∨ n ∈ (match e with | some (m, _) => [m] | none => [])) : (layO hp e)[n]? = (layO hp' e)[n]? := by
  cases e with
  | none => simpa [layO] using h
  | some e =>
    obtain ⟨m, b⟩ := e
    simp only [List.mem_singleton] at h
    by_cases hm : m = n
    · subst hm; simp [layO, List.getElem?_set, hl]
    simp only [layO]
    rw [List.getElem?_set_ne hm, List.getElem?_set_ne hm]
    exact h.resolve_right fun e => hm e.symm
theorem wNames_eq (nm : Nat) (d : Done) : wNames nm d = (match d.new.map (fun b => (nm, b)) with | some (m, _) => [m] | none => []) ++ (match d.wr with | some (n, _) => [n] | none => []) := by
  unfold wNames
  cases d.new <;> rfl
theorem eff_fr_other {s : S} {nm : Nat} {d : Option Tmp} {v : V} {new : Option Blk} {wr : Option (Nat × Blk)} {x : Nat} (h : x ∉ d.toList) : (s.eff nm d v new wr).fr[x]? = s.fr[x]? := by
  rw [eff_fr]
  cases d with
  | none => rfl
  | some y =>
    simp only [Option.toList_some, List.mem_singleton] at h
    simp [S.put, List.getElem?_set_ne (fun e => h e.symm)]
theorem nNames_eq (nm : Nat) (d : Done) : nNames nm d = (match d.new.map (fun b => (nm, b)) with | some (m, _) => [m] | none => []) := by
  unfold nNames
  cases d.new <;> rfl
theorem nNames_mem {nm n : Nat} {d : Done} (h : n ∈ nNames nm d) : n = nm := by
  unfold nNames at h
  split at h <;> simp at h
  exact h
theorem eff_ln_other {s : S} {nm : Nat} {o : Option Tmp} {d : Done} {n : Nat} (h : n ∉ nNames nm d) : (s.eff nm o d.v d.new d.wr).ln[n]? = s.ln[n]? := by
  rw [nNames_eq] at h
  rw [eff_ln, layO_other h]
theorem eff_ln_at {s s' : S} (hl : s.ln.length = s'.ln.length) {nm : Nat} {o : Option Tmp} {d : Done} {n : Nat} (hold : s.ln[n]? = s'.ln[n]? ∨ n ∈ nNames nm d) : (s.eff nm o d.v d.new d.wr).ln[n]? = (s'.eff nm o d.v d.new d.wr).ln[n]? := by
  rw [nNames_eq] at hold
  rw [eff_ln, eff_ln]
  exact layO_at hl hold
theorem eff_hp_other {s : S} {nm : Nat} {o : Option Tmp} {d : Done} {n : Nat} (h : n ∉ wNames nm d) : (s.eff nm o d.v d.new d.wr).hp[n]? = s.hp[n]? := by
  rw [wNames_eq, List.mem_append, not_or] at h
  rw [eff_hp, layO_other h.2, layO_other h.1]
theorem eff_fr_at {s s' : S} (hl : s.fr.length = s'.fr.length) {nm : Nat} {d : Option Tmp} {v : V} {new : Option Blk} {wr : Option (Nat × Blk)} {x : Nat} (h : x ∈ d.toList) : (s.eff nm d v new wr).fr[x]? = (s'.eff nm d v new wr).fr[x]? := by
  rw [eff_fr, eff_fr]
  cases d with
  | none => simp at h
  | some y =>
    simp only [Option.toList_some, List.mem_singleton] at h
    subst h
    simp [S.put, List.getElem?_set, hl]
theorem eff_hp_at {s s' : S} (hl : s.hp.length = s'.hp.length) {nm : Nat} {o : Option Tmp} {d : Done} {n : Nat} (hold : s.hp[n]? = s'.hp[n]? ∨ n ∈ wNames nm d) : (s.eff nm o d.v d.new d.wr).hp[n]? = (s'.eff nm o d.v d.new d.wr).hp[n]? := by
  rw [eff_hp, eff_hp]
  rw [wNames_eq, List.mem_append] at hold
  refine layO_at (by rw [layO_len, layO_len, hl]) ?_
  rcases hold with h | h | h
  · exact .inl (layO_at hl (.inl h))
  · exact .inl (layO_at hl (.inr h))
  exact .inr h
theorem app_fr {base : Nat} {c c' : Nat → Bool} {x : Nat} : ∀ (l : List (Oper × Done)) (i : Nat) (s s' : S), s.fr.length = s'.fr.length → s.fr[x]? = s'.fr[x]? → (∀ (j : Nat) (o : Oper) (d : Done), l[j]? = some (o, d) → x ∈ o.dst.toList → c (i + j) = c' (i + j)) →
    (appS base c i l s).fr[x]? = (appS base c' i l s').fr[x]?
  | [], _, _, _, _, h, _ => h
  | (o, d) :: l, i, s, s', hl, h, hc => by
    unfold appS
    refine app_fr l (i + 1) _ _ ?_ ?_ fun j o' d' hj hx => by
      have := hc (j + 1) o' d' (by simpa using hj) hx
      rwa [show i + (j + 1) = i + 1 + j by omega] at this
    · split <;> split <;> simp [(eff_same0 ..).frl, hl]
    by_cases hx : x ∈ o.dst.toList
    · have := hc 0 o d rfl hx
      rw [Nat.add_zero] at this
      rw [this]
      split
      · exact eff_fr_at hl hx
      exact h
    split <;> split <;> (try simp only [eff_fr_other hx]) <;> exact h
theorem app_hp {base : Nat} {c c' : Nat → Bool} {n : Nat} : ∀ (l : List (Oper × Done)) (i : Nat) (s s' : S), s.hp.length = s'.hp.length → s.hp[n]? = s'.hp[n]? → (∀ (j : Nat) (o : Oper) (d : Done), l[j]? = some (o, d) → n ∈ wNames (base + (i + j)) d → c (i + j) = c' (i + j)) →
    (appS base c i l s).hp[n]? = (appS base c' i l s').hp[n]?
  | [], _, _, _, _, h, _ => h
  | (o, d) :: l, i, s, s', hl, h, hc => by
    unfold appS
    refine app_hp l (i + 1) _ _ ?_ ?_ fun j o' d' hj => by
      have := hc (j + 1) o' d' (by simpa using hj)
      rwa [show i + (j + 1) = i + 1 + j by omega] at this
    · split <;> split <;> simp [(eff_same0 ..).hpl, hl]
    have hx1 := hc 0 o d rfl
    rw [Nat.add_zero] at hx1
    by_cases hx : n ∈ wNames (base + i) d
    · rw [hx1 hx]
      split
      · exact eff_hp_at hl (.inr hx)
      exact h
    split <;> split <;> (try simp only [eff_hp_other hx]) <;> exact h
theorem app_ln {base : Nat} {c c' : Nat → Bool} {n : Nat} : ∀ (l : List (Oper × Done)) (i : Nat) (s s' : S), s.ln.length = s'.ln.length → s.ln[n]? = s'.ln[n]? → (∀ (j : Nat) (o : Oper) (d : Done), l[j]? = some (o, d) → n ∈ nNames (base + (i + j)) d → c (i + j) = c' (i + j)) →
    (appS base c i l s).ln[n]? = (appS base c' i l s').ln[n]?
  | [], _, _, _, _, h, _ => h
  | (o, d) :: l, i, s, s', hl, h, hc => by
    unfold appS
    refine app_ln l (i + 1) _ _ ?_ ?_ fun j o' d' hj => by
      have := hc (j + 1) o' d' (by simpa using hj)
      rwa [show i + (j + 1) = i + 1 + j by omega] at this
    · split <;> split <;> simp [(eff_same0 ..).lnl, hl]
    have hx1 := hc 0 o d rfl
    rw [Nat.add_zero] at hx1
    by_cases hx : n ∈ nNames (base + i) d
    · rw [hx1 hx]
      split
      · exact eff_ln_at hl (.inr hx)
      exact h
    split <;> split <;> (try simp only [eff_ln_other hx]) <;> exact h
theorem S.ext' {s s' : S} (h : Same0 s s') (hf : ∀ x : Nat, s.fr[x]? = s'.fr[x]?) (hh : ∀ n : Nat, s.hp[n]? = s'.hp[n]?) (hn : ∀ n : Nat, s.ln[n]? = s'.ln[n]?) : s = s' := by
  cases s; cases s'
  obtain ⟨h1, h2, h3, h4, h5, h6, h7, h8⟩ := h
  have e1 := List.ext_getElem? hf
  have e2 := List.ext_getElem? hh
  have e3 := List.ext_getElem? hn
  simp only at *
  subst h1; subst h2; subst h3; subst h4; subst h8; subst e1; subst e2; subst e3
  rfl
theorem app_none (base : Nat) : ∀ (l : List (Oper × Done)) (i : Nat) (s : S), appS base (fun _ => false) i l s = s
  | [], _, _ => rfl
  | (o, d) :: l, i, s => by unfold appS; simpa using app_none base l (i + 1) s
theorem app_split (base : Nat) (c : Nat → Bool) : ∀ (l m : List (Oper × Done)) (i : Nat) (s : S), appS base c i (l ++ m) s = appS base c (i + l.length) m (appS base c i l s)
  | [], m, i, s => rfl
  | (o, d) :: l, m, i, s => by
    simp only [List.cons_append, appS, List.length_cons]
    rw [app_split base c l m (i + 1)]
    congr 1; omega
theorem app_add {base : Nat} {c : Nat → Bool} {l : List (Oper × Done)} {s : S} {i : Nat} {o : Oper} {d : Done} (hi : l[i]? = some (o, d)) (hci : c i = false)
    (hfree : ∀ (j : Nat) (o' : Oper) (d' : Done), l[j]? = some (o', d') → c j = true → i < j → (∀ x ∈ o.dst.toList, x ∉ o'.dst.toList) ∧ (∀ n ∈ wNames (base + i) d, n ∉ wNames (base + j) d') ∧ (∀ n ∈ nNames (base + i) d, n ∉ nNames (base + j) d')) :
    (appS base c 0 l s).eff (base + i) o.dst d.v d.new d.wr = appS base (upd c i) 0 l s := by
  refine S.ext' ((eff_same0 ..).trans ((appS_same0 ..).trans (appS_same0 ..).symm)) (fun x => ?_) (fun n => ?_) fun n => ?_
  · have hlt := (List.getElem?_eq_some_iff.1 hi).1
    have hsp : l = l.take i ++ (o, d) :: l.drop (i + 1) := by
      have := List.getElem?_eq_some_iff.1 hi
      rw [← this.2, List.getElem_cons_drop, List.take_append_drop]
    by_cases hx : x ∈ o.dst.toList
    · have hr : (appS base (upd c i) 0 l s).fr[x]? = ((appS base (upd c i) 0 (l.take i) s).eff (base + i) o.dst d.v d.new d.wr).fr[x]? := by
        rw [hsp, app_split]
        rw [← hsp, List.length_take, Nat.min_eq_left (by omega), Nat.zero_add]
        simp only [appS, upd, if_true]
        rw [app_fr (c' := fun _ => false) _ _ _ _ rfl rfl fun j o' d' hj hx' => ?_, app_none]
        have hj' : l[i + 1 + j]? = some (o', d') := by rw [List.getElem?_drop] at hj; exact hj
        show (if i + 1 + j = i then true else c (i + 1 + j)) = false
        rw [if_neg (by omega)]
        cases hc : c (i + 1 + j) with
        | false => rfl
        | true => exact absurd hx' ((hfree _ _ _ hj' hc (by omega)).1 x hx)
      rw [hr]
      exact eff_fr_at (by rw [(appS_same0 ..).frl, (appS_same0 ..).frl]) hx
    rw [eff_fr_other hx]
    refine app_fr l 0 s s rfl rfl fun j o' d' hj hx' => ?_
    rw [Nat.zero_add]
    unfold upd
    split
    · rename_i e
      subst e
      rw [hi] at hj
      cases hj
      exact absurd hx' hx
    rfl
  · have hlt := (List.getElem?_eq_some_iff.1 hi).1
    have hsp : l = l.take i ++ (o, d) :: l.drop (i + 1) := by
      have := List.getElem?_eq_some_iff.1 hi
      rw [← this.2, List.getElem_cons_drop, List.take_append_drop]
    by_cases hx : n ∈ wNames (base + i) d
    · have hr : (appS base (upd c i) 0 l s).hp[n]? = ((appS base (upd c i) 0 (l.take i) s).eff (base + i) o.dst d.v d.new d.wr).hp[n]? := by
        rw [hsp, app_split]
        rw [← hsp, List.length_take, Nat.min_eq_left (by omega), Nat.zero_add]
        simp only [appS, upd, if_true]
        rw [app_hp (c' := fun _ => false) _ _ _ _ rfl rfl fun j o' d' hj => ?_, app_none]
        have hj' : l[i + 1 + j]? = some (o', d') := by rw [List.getElem?_drop] at hj; exact hj
        intro hx'
        show (if i + 1 + j = i then true else c (i + 1 + j)) = false
        rw [if_neg (by omega)]
        cases hc : c (i + 1 + j) with
        | false => rfl
        | true => exact absurd hx' ((hfree _ _ _ hj' hc (by omega)).2.1 n hx)
      rw [hr]
      exact eff_hp_at (by rw [(appS_same0 ..).hpl, (appS_same0 ..).hpl]) (.inr hx)
    rw [eff_hp_other hx]
    refine app_hp l 0 s s rfl rfl fun j o' d' hj hx' => ?_
    rw [Nat.zero_add] at hx' ⊢
    unfold upd
    split
    · rename_i e
      subst e
      rw [hi] at hj
      cases hj
      exact absurd hx' hx
    rfl
  have hlt := (List.getElem?_eq_some_iff.1 hi).1
  have hsp : l = l.take i ++ (o, d) :: l.drop (i + 1) := by
    have := List.getElem?_eq_some_iff.1 hi
    rw [← this.2, List.getElem_cons_drop, List.take_append_drop]
  by_cases hx : n ∈ nNames (base + i) d
  · have hr : (appS base (upd c i) 0 l s).ln[n]? = ((appS base (upd c i) 0 (l.take i) s).eff (base + i) o.dst d.v d.new d.wr).ln[n]? := by
      rw [hsp, app_split]
      rw [← hsp, List.length_take, Nat.min_eq_left (by omega), Nat.zero_add]
      simp only [appS, upd, if_true]
      rw [app_ln (c' := fun _ => false) _ _ _ _ rfl rfl fun j o' d' hj => ?_, app_none]
      have hj' : l[i + 1 + j]? = some (o', d') := by rw [List.getElem?_drop] at hj; exact hj
      intro hx'
      show (if i + 1 + j = i then true else c (i + 1 + j)) = false
      rw [if_neg (by omega)]
      cases hc : c (i + 1 + j) with
      | false => rfl
      | true => exact absurd hx' ((hfree _ _ _ hj' hc (by omega)).2.2 n hx)
    rw [hr]
    exact eff_ln_at (by rw [(appS_same0 ..).lnl, (appS_same0 ..).lnl]) (.inr hx)
  rw [eff_ln_other hx]
  refine app_ln l 0 s s rfl rfl fun j o' d' hj hx' => ?_
  rw [Nat.zero_add] at hx' ⊢
  unfold upd
  split
  · rename_i e
    subst e
    rw [hi] at hj
    cases hj
    exact absurd hx' hx
  rfl
inductive Anc (all : List Oper) : Nat → Nat → Prop
  | one {p j : Nat} {o : Oper} : all[j]? = some o → p ∈ preds o → Anc all p j
  | more {p q j : Nat} {o : Oper} : all[j]? = some o → q ∈ preds o → Anc all p q → Anc all p j
theorem ancL_ok (all : List Oper) : ∀ (l : List Oper) (acc : List (List Nat)), (∀ j, l[j]? = all[acc.length + j]?) → (∀ j i, i ∈ acc.getD j [] → Anc all i j) → ∀ j i, i ∈ (ancL l acc).getD j [] → Anc all i j
  | [], acc, _, h, j, i, hi => h j i hi
  | o :: l, acc, hl, h, j, i, hi => by
    unfold ancL at hi
    refine ancL_ok all l _ (fun k => ?_) (fun k m hm => ?_) j i hi
    · have := hl (k + 1)
      rw [List.length_append, List.length_singleton, show acc.length + 1 + k = acc.length + (k + 1) by omega, ← this]
      simp
    by_cases hk : k < acc.length
    · rw [List.getD_eq_getElem?_getD, List.getElem?_append_left hk, ← List.getD_eq_getElem?_getD] at hm
      exact h k m hm
    rw [List.getD_eq_getElem?_getD, List.getElem?_append_right (by omega)] at hm
    have h0 : k - acc.length = 0 := by
      rcases Nat.eq_zero_or_pos (k - acc.length) with h0 | h0
      · exact h0
      rw [List.getElem?_eq_none (by simp; omega)] at hm; simp at hm
    rw [h0] at hm
    have hk' : k = acc.length := by omega
    subst hk'
    have ho : all[acc.length]? = some o := by have := hl 0; simpa using this.symm
    simp only [List.getElem?_cons_zero, Option.getD_some] at hm
    replace hm := mem_once hm
    simp only [List.mem_append, List.mem_flatMap] at hm
    rcases hm with hm | ⟨p, hp, hm⟩
    · exact .one ho hm
    exact .more ho hp (h p m hm)
def Closed (all : List Oper) (c : Nat → Bool) : Prop := ∀ j o p, all[j]? = some o → c j = true → p ∈ preds o → c p = true
theorem Closed.anc {all : List Oper} {c : Nat → Bool} (h : Closed all c) {i j : Nat} (ha : Anc all i j) : c j = true → c i = true := by
  induction ha with
  | one ho hp => exact fun hc => h _ _ _ ho hc hp
  | more ho hq _ ih => exact fun hc => ih (h _ _ _ ho hc hq)
theorem pairOk_get {base : Nat} {anc : List (List Nat)} {j : Nat} {o' : Oper} {d' : Done} : ∀ {l : List (Oper × Done)} {i k : Nat} {o : Oper} {d : Done}, pairOk base anc j o' d' i l = true → l[k]? = some (o, d) → conflict base (i + k) j o d o' d' = true → (i + k) ∈ anc.getD j []
  | [], _, _, _, _, _, h, _ => by simp at h
  | (o0, d0) :: l, i, 0, o, d, h, hk, hc => by
    simp only [pairOk, Bool.and_eq_true, Bool.or_eq_true, Bool.not_eq_true'] at h
    obtain ⟨rfl, rfl⟩ : o0 = o ∧ d0 = d := by simpa using hk
    rcases h.1 with h1 | h1
    · rw [Nat.add_zero, h1] at hc; cases hc
    simpa using h1
  | (o0, d0) :: l, i, k + 1, o, d, h, hk, hc => by
    simp only [pairOk, Bool.and_eq_true] at h
    have := pairOk_get (k := k) h.2 (by simpa using hk) (by rwa [show i + 1 + k = i + (k + 1) by omega])
    rwa [show i + 1 + k = i + (k + 1) by omega] at this
theorem pairsOk_get {base : Nat} {anc : List (List Nat)} : ∀ {l pre : List (Oper × Done)}, pairsOk base anc pre l = true → ∀ {i j : Nat} {o o' : Oper} {d d' : Done}, (pre ++ l)[i]? = some (o, d) → l[j]? = some (o', d') → i < pre.length + j → conflict base i (pre.length + j) o d o' d' = true → i ∈ anc.getD (pre.length + j) []
  | [], _, _, _, _, _, _, _, _, _, h, _, _ => by simp at h
  | (o0, d0) :: l, pre, h, i, j, o, o', d, d', hi, hj, hlt, hc => by
    simp only [pairsOk, Bool.and_eq_true] at h
    cases j with
    | zero =>
      obtain ⟨rfl, rfl⟩ : o0 = o' ∧ d0 = d' := by simpa using hj
      rw [Nat.add_zero] at hlt hc ⊢
      have := pairOk_get (i := 0) (k := i) h.1 (by rw [← hi, List.getElem?_append_left hlt]) (by rwa [Nat.zero_add])
      rwa [Nat.zero_add] at this
    | succ j =>
      have := pairsOk_get (l := l) (pre := pre ++ [(o0, d0)]) h.2 (i := i) (j := j) (o := o) (o' := o') (d := d) (d' := d') (by simpa using hi) (by simpa using hj) (by simp; omega) (by simpa [show pre.length + 1 + j = pre.length + (j + 1) by omega] using hc)
      simpa [show pre.length + 1 + j = pre.length + (j + 1) by omega] using this
theorem backOk_get : ∀ {l : List Oper} {i : Nat}, backOk i l = true → ∀ {j : Nat} {o : Oper} {p : Nat}, l[j]? = some o → p ∈ preds o → p < i + j
  | [], _, _, _, _, _, h, _ => by simp at h
  | o0 :: l, i, h, j, o, p, hj, hp => by
    simp only [backOk, Bool.and_eq_true] at h
    cases j with
    | zero =>
      obtain rfl : o0 = o := by simpa using hj
      have := List.all_eq_true.1 h.1 p hp
      simpa using this
    | succ j =>
      have := backOk_get (j := j) h.2 (by simpa using hj) hp
      omega
theorem mem_preds {o : Oper} {p : Nat} : p ∈ preds o ↔ ∃ e ∈ o.after, Region.binds .any e = true ∧ e.on = p := by
  simp [preds, and_assoc]
theorem meets_no {l m : List Nat} (h : meets l m = false) : ∀ x ∈ l, x ∉ m := fun x hx hm => by
  have : meets l m = true := List.any_eq_true.2 ⟨x, hx, by simpa using hm⟩
  rw [h] at this
  cases this
section
variable {C : Cx} {w0 : Org} {ps : List (World → Prop)} {T : List TF} {ρ : List Value} {Q : Exit → Act → World → Prop}
theorem wpAnyIn_inv {F : Fence} {m : Nat} {P : Program} {ops : Array Oper} {md : Region.Mode} (I : Array Bool → Act → World → Prop)
    (hstep : ∀ listed a w i, listed.size = ops.size → I listed a w → i ∈ Region.ready md ops listed → wpOpIn F m P ops Q i (fun a' w' => I (listed.setIfInBounds i true) a' w') a w)
    (hend : ∀ listed a w, listed.size = ops.size → I listed a w → Region.ready md ops listed = [] → Q .normal a w) :
    ∀ fuel listed a w, listed.size = ops.size → (listed.toList.filter (! ·)).length ≤ fuel → I listed a w → wpAnyIn F m P md ops Q fuel listed a w := by
  intro fuel
  induction fuel with
  | zero =>
    intro listed a w hs hc hI
    have hr : Region.ready md ops listed = [] := by
      rw [Region.ready, List.filter_eq_nil_iff]
      intro i hi
      have hi' : i < listed.size := by rw [hs]; simpa using hi
      have : listed[i] = true := by
        cases hb : listed[i] with
        | true => rfl
        | false =>
          exfalso
          have hm : false ∈ listed.toList.filter (! ·) := by
            rw [List.mem_filter]
            exact ⟨by rw [← hb]; exact Array.getElem_mem_toList hi', rfl⟩
          have := List.length_pos_of_mem hm
          omega
      simp [Array.getD, hi', this]
    exact ⟨hr, hend _ _ _ hs hI hr⟩
  | succ fuel ih =>
    intro listed a w hs hc hI
    refine ⟨fun h0 => hend _ _ _ hs hI h0, fun i hi => wpOpIn_mono (fun a' w' h' => ?_) (hstep listed a w i hs hI hi)⟩
    refine ih _ _ _ (by simpa using hs) ?_ h'
    have hi1 : i < ops.size ∧ listed.getD i true = false := by
      rw [Region.ready, List.mem_filter] at hi
      exact ⟨by simpa using hi.1, by have := hi.2; simp only [Bool.and_eq_true, Bool.not_eq_true'] at this; exact this.1⟩
    have hlt : i < listed.toList.length := by simp [hs, hi1.1]
    have hf : listed.toList[i] = false := by
      have h2 := hi1.2
      simp only [Array.getD, show i < listed.size by omega, dif_pos] at h2
      simpa using h2
    have := count_set listed.toList i hlt hf
    rw [Array.toList_setIfInBounds]
    omega
def StepOk (C : Cx) (rr : Option Nat) (w0 : Org) (ps : List (World → Prop)) (T : List TF) (ρ : List Value) (Q : Exit → Act → World → Prop) (all : Array Oper) (nm : Nat) (o : Oper) (d : Done) (pre : S) : Prop :=
  ∀ (s : S) (a : Act) (W : World) (K : Act → World → Prop), Same0 s pre → AgreeAt d.slots (nm :: d.names) (nm :: d.snames) s pre → Inv w0 ps T ρ s a W → (∀ a' W', Inv w0 ps T ρ (s.eff nm o.dst d.v d.new d.wr) a' W' → K a' W') →
    if Region.wanted o (yielded all a.tmps) = true then o.wpIn (FW rr) 0 C.P a W K Q else K (a.put o.dst undef) W
theorem draw_region {rr : Option Nat} {id : Nat} {l : List Oper} {ds : List Done} {base : Nat} {s0 : S} {a : Act} {W : World} (hm : C.P.follows .mixedOrders = true) (hord : orderOk base l ds = true)
    (hst : ∀ (i : Nat) (o : Oper) (d : Done), (l.zip ds)[i]? = some (o, d) → StepOk C rr w0 ps T ρ Q l.toArray (base + i) o d (appS base (fun j => decide (j < i)) 0 (l.zip ds) s0)) (hI : Inv w0 ps T ρ s0 a W)
    (hK : ∀ a' W', Inv w0 ps T ρ (appS base (fun _ => true) 0 (l.zip ds) s0) a' W' → Q .normal a' W') : wpR rr C.P (Code.region id l.toArray true) Q a W := by
  simp only [orderOk, Bool.and_eq_true, decide_eq_true_eq] at hord
  obtain ⟨⟨hback, hlen⟩, hpairs⟩ := hord
  have hanc : ∀ j i, i ∈ (ancL l []).getD j [] → Anc l i j := ancL_ok l l [] (by simp) (by simp)
  have hzip : ∀ i o, l[i]? = some o → ∃ d, (l.zip ds)[i]? = some (o, d) := fun i o ho => by
    have h1 := (List.getElem?_eq_some_iff.1 ho).1
    exact ⟨ds[i]'(by omega), List.getElem?_zip_eq_some.2 ⟨ho, List.getElem?_eq_getElem _⟩⟩
  have hzl : ∀ i o d, (l.zip ds)[i]? = some (o, d) → l[i]? = some o := fun i o d h => (List.getElem?_zip_eq_some.1 h).1
  have hfree : ∀ {c : Nat → Bool} {i j : Nat} {o o' : Oper} {d d' : Done}, Closed l c → c i = false → c j = true → (l.zip ds)[i]? = some (o, d) → (l.zip ds)[j]? = some (o', d') → i < j → conflict base i j o d o' d' = false := fun {c i j o o' d d'} hc hi hj ho ho' hlt => by
    cases hq : conflict base i j o d o' d' with
    | false => rfl
    | true =>
      have := pairsOk_get hpairs (i := i) (j := j) ho ho' (by simpa using hlt) (by simpa using hq)
      have h2 := hc.anc (hanc _ _ (by simpa using this)) hj
      rw [hi] at h2; cases h2
  have hbefore : ∀ {i j : Nat} {o o' : Oper} {d d' : Done} {c : Nat → Bool}, (l.zip ds)[i]? = some (o, d) → (l.zip ds)[j]? = some (o', d') → j < i → (∀ p ∈ preds o, c p = true) → Closed l c → c j = false → conflict base j i o' d' o d = false := fun {i j o o' d d' c} ho ho' hlt hp hc hj => by
    cases hq : conflict base j i o' d' o d with
    | false => rfl
    | true =>
      have := hanc _ _ (by simpa using pairsOk_get hpairs (i := j) (j := i) ho' ho (by simpa using hlt) (by simpa using hq))
      exfalso
      have key : c j = true := by
        cases this with
        | one ho2 hp2 => rw [hzl _ _ _ ho] at ho2; cases ho2; exact hp _ hp2
        | more ho2 hq2 ha => rw [hzl _ _ _ ho] at ho2; cases ho2; exact hc.anc ha (hp _ hq2)
      rw [hj] at key; cases key
  refine wpIn_region_any hm (wpAnyIn_inv (fun listed b W => Closed l (fun i => listed.getD i false) ∧ Inv w0 ps T ρ (appS base (fun i => listed.getD i false) 0 (l.zip ds) s0) b W) ?_ ?_ l.toArray.size _ _ _ (by simp) ?_ ?_)
  · rintro listed b W i hs ⟨hcl, hinv⟩ hi
    obtain ⟨hu, o, ho, hpre⟩ := mem_ready.1 hi
    have hol : l[i]? = some o := by simpa using ho
    obtain ⟨d, hd⟩ := hzip i o hol
    have hci : listed.getD i false = false := getD_both hu
    have hpreds : ∀ p ∈ preds o, listed.getD p false = true := fun p hp => by
      obtain ⟨e, he, hb, rfl⟩ := mem_preds.1 hp
      exact hpre e he hb
    have hstep := hst i o d hd
    have hagree : AgreeAt d.slots ((base + i) :: d.names) ((base + i) :: d.snames) (appS base (fun i => listed.getD i false) 0 (l.zip ds) s0) (appS base (fun j => decide (j < i)) 0 (l.zip ds) s0) := by
      refine ⟨fun x hx => app_fr _ 0 s0 s0 rfl rfl fun j o' d' hj hx' => ?_, fun n hn => app_hp _ 0 s0 s0 rfl rfl fun j o' d' hj hx' => ?_, fun n hn => app_ln _ 0 s0 s0 rfl rfl fun j o' d' hj hx' => ?_⟩
      · rw [Nat.zero_add]
        rcases Nat.lt_trichotomy j i with hlt | rfl | hgt
        · have h3 : decide (j < i) = true := by simpa using hlt
          rw [h3]
          cases hq : listed.getD j false with
          | true => rfl
          | false =>
            have := hbefore (c := fun i => listed.getD i false) hd hj hlt hpreds hcl hq
            simp only [conflict, Bool.or_eq_false_iff] at this
            exact absurd (List.mem_append_left _ hx) (meets_no this.1.1.1.1.1 x hx')
        · rw [hci]; simp
        have h3 : decide (j < i) = false := by simp; omega
        rw [h3]
        cases hq : listed.getD j false with
        | false => rfl
        | true =>
          have := hfree (c := fun i => listed.getD i false) hcl hci hq hd hj hgt
          simp only [conflict, Bool.or_eq_false_iff] at this
          exact absurd hx (meets_no this.1.1.1.1.2 x hx')
      · rw [Nat.zero_add] at hx' ⊢
        rcases Nat.lt_trichotomy j i with hlt | rfl | hgt
        · have h3 : decide (j < i) = true := by simpa using hlt
          rw [h3]
          cases hq : listed.getD j false with
          | true => rfl
          | false =>
            have := hbefore (c := fun i => listed.getD i false) hd hj hlt hpreds hcl hq
            simp only [conflict, Bool.or_eq_false_iff] at this
            refine absurd ?_ (meets_no this.1.1.1.2 n hx')
            rcases List.mem_cons.1 hn with rfl | hn
            · simp
            simp [hn]
        · rw [hci]; simp
        have h3 : decide (j < i) = false := by simp; omega
        rw [h3]
        cases hq : listed.getD j false with
        | false => rfl
        | true =>
          have := hfree (c := fun i => listed.getD i false) hcl hci hq hd hj hgt
          simp only [conflict, Bool.or_eq_false_iff] at this
          refine absurd ?_ (meets_no this.1.1.2 n hx')
          rcases List.mem_cons.1 hn with rfl | hn
          · simp
          simp [hn]
      rw [Nat.zero_add] at hx' ⊢
      rcases Nat.lt_trichotomy j i with hlt | rfl | hgt
      · have h3 : decide (j < i) = true := by simpa using hlt
        rw [h3]
        cases hq : listed.getD j false with
        | true => rfl
        | false =>
          have := hbefore (c := fun i => listed.getD i false) hd hj hlt hpreds hcl hq
          simp only [conflict, Bool.or_eq_false_iff] at this
          refine absurd ?_ (meets_no this.1.2 n hx')
          rcases List.mem_cons.1 hn with rfl | hn
          · simp
          simp [hn]
      · rw [hci]; simp
      have h3 : decide (j < i) = false := by simp; omega
      rw [h3]
      cases hq : listed.getD j false with
      | false => rfl
      | true =>
        have := hfree (c := fun i => listed.getD i false) hcl hci hq hd hj hgt
        simp only [conflict, Bool.or_eq_false_iff] at this
        refine absurd ?_ (meets_no this.2 n hx')
        rcases List.mem_cons.1 hn with rfl | hn
        · simp
        simp [hn]
    have hsame : Same0 (appS base (fun i => listed.getD i false) 0 (l.zip ds) s0) (appS base (fun j => decide (j < i)) 0 (l.zip ds) s0) :=
      (appS_same0 ..).trans (appS_same0 ..).symm
    have hfin := hstep _ b W (fun a' w' => Closed l (fun j => (listed.setIfInBounds i true).getD j false) ∧ Inv w0 ps T ρ (appS base (fun j => (listed.setIfInBounds i true).getD j false) 0 (l.zip ds) s0) a' w') hsame hagree hinv fun a' W' h => by
      have hmask : (fun j => (listed.setIfInBounds i true).getD j false) = upd (fun j => listed.getD j false) i := by
        funext j
        unfold upd
        by_cases e : j = i
        · subst e
          have hlt : j < listed.size := by rw [hs]; simpa using (List.getElem?_eq_some_iff.1 hol).1
          simp [Array.getD_eq_getD_getElem?, hlt]
        rw [if_neg e, getD_set_ne false (fun h => e h.symm)]
      refine ⟨?_, ?_⟩
      · rw [hmask]
        intro j o' p hj hcj hp
        unfold upd at hcj ⊢
        by_cases e : p = i
        · rw [if_pos e]
        rw [if_neg e]
        by_cases e2 : j = i
        · subst e2
          rw [hol] at hj; cases hj
          exact hpreds p hp
        rw [if_neg e2] at hcj
        exact hcl j o' p hj hcj hp
      rw [hmask, ← app_add hd hci fun j o' d' hj hcj hlt => ?_]
      · exact h
      · have := hfree (c := fun i => listed.getD i false) hcl hci hcj hd hj hlt
        simp only [conflict, Bool.or_eq_false_iff] at this
        exact ⟨fun x hx hx' => meets_no this.1.1.1.1.1 x hx (List.mem_append_right _ hx'), fun n hn hn' => meets_no this.1.1.1.2 n hn (by simp [hn']), fun n hn hn' => meets_no this.1.2 n hn (by simp [nNames_mem hn'])⟩
    unfold wpOpIn
    rw [ho]
    dsimp only
    split
    · rename_i hw; rw [if_pos hw] at hfin; exact hfin
    rename_i hw; rw [if_neg hw] at hfin; exact ⟨fun _ _ => trivial, hfin⟩
  · rintro listed b W hs ⟨hcl, hinv⟩ hr
    have hall : ∀ i, i < l.length → listed.getD i false = true := by
      intro i
      induction i using Nat.strongRecOn with
      | ind i ih =>
        intro hi
        cases hb : listed.getD i false with
        | true => rfl
        | false =>
          exfalso
          have hm : i ∈ Region.ready .any l.toArray listed := by
            refine mem_ready.2 ⟨getD_in (by rw [hs]; simpa using hi) hb, l[i], by simp [hi], fun e he hbd => ?_⟩
            have := backOk_get hback (List.getElem?_eq_getElem hi) (mem_preds.2 ⟨e, he, hbd, rfl⟩)
            rw [Nat.zero_add] at this
            exact ih e.on this (by omega)
          rw [hr] at hm
          cases hm
    have he : appS base (fun i => listed.getD i false) 0 (l.zip ds) s0 = appS base (fun _ => true) 0 (l.zip ds) s0 := by
      refine S.ext' ((appS_same0 ..).trans (appS_same0 ..).symm) (fun x => app_fr _ 0 s0 s0 rfl rfl fun j o' d' hj _ => ?_) (fun n => app_hp _ 0 s0 s0 rfl rfl fun j o' d' hj _ => ?_) fun n => app_ln _ 0 s0 s0 rfl rfl fun j o' d' hj _ => ?_
      all_goals
        rw [Nat.zero_add]
        exact hall j (List.getElem?_eq_some_iff.1 (hzl _ _ _ hj)).1
    rw [he] at hinv
    exact hK _ _ hinv
  · rw [Array.toList_replicate]; exact Nat.le_trans (List.length_filter_le _ _) (by simp)
  have hz : (fun i => (Array.replicate l.toArray.size false).getD i false) = fun _ => false := funext fun i => getD_replicate_false _ _
  refine ⟨(by rw [hz]; exact fun j o p _ hc _ => nomatch hc), ?_⟩
  have : appS base (fun i => (Array.replicate l.toArray.size false).getD i false) 0 (l.zip ds) s0 = s0 := by
    rw [hz, app_none]
  rw [this]
  exact hI.step ((Below.refl _ _).drew)
theorem wpIn_put {rr : Option Nat} {P : Program} {o : Oper} {all : Array Oper} {y : Nat} {v : Value} {b : Act} {W : World} {K : Act → World → Prop} (hp : plainOp o.op = true) (hy : y ∉ o.looksAt all) (hyd : o.dst ≠ some y) (hQ : ∀ c a w, ¬ Q (.panic c) a w)
    (h : o.wpIn (FW rr) 0 P (b.put (some y) v) W K Q) : o.wpIn (FW rr) 0 P b W (fun a W => K (a.put (some y) v) W) Q := by
  have hs : ∀ cs b, o.op ≠ .select cs b := fun cs b e => by rw [e] at hp; cases hp
  have hd : ∀ c, o.op ≠ .defer c := fun c e => by rw [e] at hp; cases hp
  refine ⟨fun _ _ => trivial, ?_⟩
  have h := h.2
  rw [Oper.semAt_eq _ _ _ hd, execOp_put (ops := all) o hs b (some y) v (fun d e => by cases e; exact hy)] at h
  rw [Oper.semAt_eq _ _ _ hd]
  have hc : ∀ (a : Act) u, (a.put (some y) v).put o.dst u = (a.put o.dst u).put (some y) v := fun a u => Act.put_comm a v u fun d e => by cases e; exact hyd
  generalize (execOp b.eval o).run P W = r at h ⊢
  cases r with
  | ok x w' =>
    cases x <;> simp only [Oper.uponIn] at h ⊢
    case value u => rw [← hc]; exact h
    case skip => rw [← hc]; exact h
    case defer d => rw [← hc, ← Act.put_defers]; exact h
    case enter f as' => exact ⟨h.1, CallsIn.mono h.2 fun e w'' he => by cases e <;> first | (show K _ _; rw [← hc]; exact he) | exact (hQ _ _ _ he).elim | exact he⟩
    case row f as' => exact ⟨h.1, RowsIn.mono h.2 fun e w'' he => by rw [← hc]; exact he⟩
    case round l f t as' bd => exact ⟨h.1, RoundIn.mono h.2 fun e w'' he => by cases e <;> first | (show K _ _; rw [← hc]; exact he) | exact (hQ _ _ _ he).elim | exact he⟩
    all_goals exact h
  | halt x w' => cases x <;> simp only [Oper.uponIn] at h ⊢ <;> first | exact (hQ _ _ _ h).elim | exact h
theorem wpIn_move {rr : Option Nat} {P : Program} {o : Oper} {x y : Nat} {b : Act} {W : World} {K : Act → World → Prop} (hm : moveOf o = some (x, y)) : o.wpIn (FW rr) 0 P b W K Q ↔ K (b.put (some y) (b.eval (.tmp x))) W := by
  obtain ⟨dst, op, ty, pos, aft, g⟩ := o
  unfold moveOf at hm
  split at hm
  · rename_i hg ho hd
    cases hm
    simp only at hg ho hd
    subst hg; subst ho; subst hd
    unfold Oper.wpIn
    rw [Oper.semAt_eq _ _ _ (by intro c e; cases e)]
    simp only [execOp]
    exact ⟨fun h => h.2, fun h => ⟨fun _ _ => trivial, h⟩⟩
  cases hm
theorem moveOf_wanted {o : Oper} {x y : Nat} (hm : moveOf o = some (x, y)) (l : Nat → Option Bool) : Region.wanted o l = true := by
  unfold moveOf at hm
  split at hm
  · rename_i hg _ _
    simp [Region.wanted, hg]
  cases hm
theorem getD_upd {listed : Array Bool} {i k : Nat} (h : i < listed.size) : (listed.setIfInBounds i true).getD k false = if k = i then true else listed.getD k false := by
  by_cases e : k = i
  · subst e
    simp [Array.getD_eq_getD_getElem?, h]
  rw [if_neg e, getD_set_ne false (fun h => e h.symm)]
theorem wpIn_keep {rr : Option Nat} {P : Program} {o : Oper} {b : Act} {W : World} {K K' : Act → World → Prop} (hp : plainOp o.op = true) (h : o.wpIn (FW rr) 0 P b W K Q) (hk : ∀ u ds' W', K (({ b with defers := ds' } : Act).put o.dst u) W' → K' (({ b with defers := ds' } : Act).put o.dst u) W') : o.wpIn (FW rr) 0 P b W K' Q := by
  refine ⟨h.1, ?_⟩
  have h := h.2
  generalize (o.semAt (FW rr).round b.eval).run P W = r at h ⊢
  cases r with
  | ok x w' =>
    cases x <;> simp only [Oper.uponIn] at h ⊢
    case value u => exact hk u b.defers w' h
    case skip => exact hk undef b.defers w' h
    case defer d => exact hk undef (d :: b.defers) w' h
    case enter f as' => exact ⟨h.1, CallsIn.mono h.2 fun e w'' he => by cases e <;> first | exact hk _ b.defers _ he | exact he⟩
    case row f as' => exact ⟨h.1, RowsIn.mono h.2 fun e w'' he => hk _ b.defers _ he⟩
    case round l f t as' bd => exact ⟨h.1, RoundIn.mono h.2 fun e w'' he => by cases e <;> first | exact hk _ b.defers _ he | exact he⟩
    all_goals exact h
  | halt x w' => cases x <;> simp only [Oper.uponIn] at h ⊢ <;> exact h
theorem List.contains_eq_false_iff_not_mem' {l : List Nat} {x : Nat} : l.contains x = false ↔ x ∉ l := by
  rw [← Bool.not_eq_true, List.contains_iff_mem]
theorem draw_tail {rr : Option Nat} {id : Nat} {l : List Oper} {ds : List Done} {base : Nat} {s0 : S} {a : Act} {W : World} (hm : C.P.follows .mixedOrders = true) (hQ : ∀ c a w, ¬ Q (.panic c) a w) (hord : tailOk base l ds = true)
    (hst : ∀ (i : Nat) (o : Oper) (d : Done), (l.zip ds)[i]? = some (o, d) → StepOk C rr w0 ps T ρ Q l.toArray (base + i) o d (appS base (fun j => decide (j < i)) 0 (l.zip ds) s0)) (hI : Inv w0 ps T ρ s0 a W)
    (hK : ∀ a' W', Inv w0 ps T ρ (appS base (fun _ => true) 0 (l.zip ds) s0) a' W' → wpLR rr C.P l.toArray Q (l.drop ds.length) a' W') : wpR rr C.P (Code.region id l.toArray true) Q a W := by
  simp only [tailOk, Bool.and_eq_true, decide_eq_true_eq] at hord
  obtain ⟨⟨⟨hback, hlen⟩, hpairs⟩, hlast⟩ := hord
  rw [List.all_eq_true] at hlast
  have hanc : ∀ j i, i ∈ (ancL l []).getD j [] → Anc l i j := ancL_ok l l [] (by simp) (by simp)
  have hzip : ∀ i o, i < ds.length → l[i]? = some o → ∃ d, (l.zip ds)[i]? = some (o, d) := fun i o hid ho => by
    have h1 := (List.getElem?_eq_some_iff.1 ho).1
    exact ⟨ds[i]'(by omega), List.getElem?_zip_eq_some.2 ⟨ho, List.getElem?_eq_getElem _⟩⟩
  have hzl : ∀ i o d, (l.zip ds)[i]? = some (o, d) → l[i]? = some o := fun i o d h => (List.getElem?_zip_eq_some.1 h).1
  have hfree : ∀ {c : Nat → Bool} {i j : Nat} {o o' : Oper} {d d' : Done}, Closed l c → c i = false → c j = true → (l.zip ds)[i]? = some (o, d) → (l.zip ds)[j]? = some (o', d') → i < j → conflict base i j o d o' d' = false := fun {c i j o o' d d'} hc hi hj ho ho' hlt => by
    cases hq : conflict base i j o d o' d' with
    | false => rfl
    | true =>
      have := pairsOk_get hpairs (i := i) (j := j) ho ho' (by simpa using hlt) (by simpa using hq)
      have h2 := hc.anc (hanc _ _ (by simpa using this)) hj
      rw [hi] at h2; cases h2
  have hbefore : ∀ {i j : Nat} {o o' : Oper} {d d' : Done} {c : Nat → Bool}, (l.zip ds)[i]? = some (o, d) → (l.zip ds)[j]? = some (o', d') → j < i → (∀ p ∈ preds o, c p = true) → Closed l c → c j = false → conflict base j i o' d' o d = false := fun {i j o o' d d' c} ho ho' hlt hp hc hj => by
    cases hq : conflict base j i o' d' o d with
    | false => rfl
    | true =>
      have := hanc _ _ (by simpa using pairsOk_get hpairs (i := j) (j := i) ho' ho (by simpa using hlt) (by simpa using hq))
      exfalso
      have key : c j = true := by
        cases this with
        | one ho2 hp2 => rw [hzl _ _ _ ho] at ho2; cases ho2; exact hp _ hp2
        | more ho2 hq2 ha => rw [hzl _ _ _ ho] at ho2; cases ho2; exact hc.anc ha (hp _ hq2)
      rw [hj] at key; cases key
  let c0 : Array Bool → Nat → Bool := fun listed i => listed.getD i false
  have hagr : ∀ {listed : Array Bool} {i : Nat} {o : Oper} {d : Done}, (l.zip ds)[i]? = some (o, d) → listed.getD i false = false → (∀ p ∈ preds o, listed.getD p false = true) → Closed l (fun i => listed.getD i false) →
      AgreeAt d.slots ((base + i) :: d.names) ((base + i) :: d.snames) (appS base (fun i => listed.getD i false) 0 (l.zip ds) s0) (appS base (fun j => decide (j < i)) 0 (l.zip ds) s0) ∧ Same0 (appS base (fun i => listed.getD i false) 0 (l.zip ds) s0) (appS base (fun j => decide (j < i)) 0 (l.zip ds) s0) := by
    intro listed i o d hd hci hpreds hcl
    have hagree : AgreeAt d.slots ((base + i) :: d.names) ((base + i) :: d.snames) (appS base (fun i => listed.getD i false) 0 (l.zip ds) s0) (appS base (fun j => decide (j < i)) 0 (l.zip ds) s0) := by
      refine ⟨fun x hx => app_fr _ 0 s0 s0 rfl rfl fun j o' d' hj hx' => ?_, fun n hn => app_hp _ 0 s0 s0 rfl rfl fun j o' d' hj hx' => ?_, fun n hn => app_ln _ 0 s0 s0 rfl rfl fun j o' d' hj hx' => ?_⟩
      · rw [Nat.zero_add]
        rcases Nat.lt_trichotomy j i with hlt | rfl | hgt
        · have h3 : decide (j < i) = true := by simpa using hlt
          rw [h3]
          cases hq : listed.getD j false with
          | true => rfl
          | false =>
            have := hbefore (c := fun i => listed.getD i false) hd hj hlt hpreds hcl hq
            simp only [conflict, Bool.or_eq_false_iff] at this
            exact absurd (List.mem_append_left _ hx) (meets_no this.1.1.1.1.1 x hx')
        · rw [hci]; simp
        have h3 : decide (j < i) = false := by simp; omega
        rw [h3]
        cases hq : listed.getD j false with
        | false => rfl
        | true =>
          have := hfree (c := fun i => listed.getD i false) hcl hci hq hd hj hgt
          simp only [conflict, Bool.or_eq_false_iff] at this
          exact absurd hx (meets_no this.1.1.1.1.2 x hx')
      · rw [Nat.zero_add] at hx' ⊢
        rcases Nat.lt_trichotomy j i with hlt | rfl | hgt
        · have h3 : decide (j < i) = true := by simpa using hlt
          rw [h3]
          cases hq : listed.getD j false with
          | true => rfl
          | false =>
            have := hbefore (c := fun i => listed.getD i false) hd hj hlt hpreds hcl hq
            simp only [conflict, Bool.or_eq_false_iff] at this
            refine absurd ?_ (meets_no this.1.1.1.2 n hx')
            rcases List.mem_cons.1 hn with rfl | hn
            · simp
            simp [hn]
        · rw [hci]; simp
        have h3 : decide (j < i) = false := by simp; omega
        rw [h3]
        cases hq : listed.getD j false with
        | false => rfl
        | true =>
          have := hfree (c := fun i => listed.getD i false) hcl hci hq hd hj hgt
          simp only [conflict, Bool.or_eq_false_iff] at this
          refine absurd ?_ (meets_no this.1.1.2 n hx')
          rcases List.mem_cons.1 hn with rfl | hn
          · simp
          simp [hn]
      rw [Nat.zero_add] at hx' ⊢
      rcases Nat.lt_trichotomy j i with hlt | rfl | hgt
      · have h3 : decide (j < i) = true := by simpa using hlt
        rw [h3]
        cases hq : listed.getD j false with
        | true => rfl
        | false =>
          have := hbefore (c := fun i => listed.getD i false) hd hj hlt hpreds hcl hq
          simp only [conflict, Bool.or_eq_false_iff] at this
          refine absurd ?_ (meets_no this.1.2 n hx')
          rcases List.mem_cons.1 hn with rfl | hn
          · simp
          simp [hn]
      · rw [hci]; simp
      have h3 : decide (j < i) = false := by simp; omega
      rw [h3]
      cases hq : listed.getD j false with
      | false => rfl
      | true =>
        have := hfree (c := fun i => listed.getD i false) hcl hci hq hd hj hgt
        simp only [conflict, Bool.or_eq_false_iff] at this
        refine absurd ?_ (meets_no this.2 n hx')
        rcases List.mem_cons.1 hn with rfl | hn
        · simp
        simp [hn]
    have hsame : Same0 (appS base (fun i => listed.getD i false) 0 (l.zip ds) s0) (appS base (fun j => decide (j < i)) 0 (l.zip ds) s0) :=
      (appS_same0 ..).trans (appS_same0 ..).symm
    exact ⟨hagree, hsame⟩
  have hadd : ∀ {listed : Array Bool} {i : Nat} {o : Oper} {d : Done}, (l.zip ds)[i]? = some (o, d) → listed.getD i false = false → i < listed.size → Closed l (fun i => listed.getD i false) →
      (appS base (fun i => listed.getD i false) 0 (l.zip ds) s0).eff (base + i) o.dst d.v d.new d.wr = appS base (fun j => (listed.setIfInBounds i true).getD j false) 0 (l.zip ds) s0 := by
    intro listed i o d hd hci hlt hcl
    have hmask : (fun j => (listed.setIfInBounds i true).getD j false) = upd (fun j => listed.getD j false) i := by
      funext j
      rw [getD_upd hlt]
      rfl
    rw [hmask, ← app_add hd hci fun j o' d' hj hcj hlt => ?_]
    have := hfree (c := fun i => listed.getD i false) hcl hci hcj hd hj hlt
    simp only [conflict, Bool.or_eq_false_iff] at this
    exact ⟨fun x hx hx' => meets_no this.1.1.1.1.1 x hx (List.mem_append_right _ hx'), fun n hn hn' => meets_no this.1.1.1.2 n hn (by simp [hn']), fun n hn hn' => meets_no this.1.2 n hn (by simp [nNames_mem hn'])⟩
  have happ : ∀ {c : Nat → Bool}, (∀ j, j < ds.length → c j = true) → appS base c 0 (l.zip ds) s0 = appS base (fun _ => true) 0 (l.zip ds) s0 := by
    intro c hc
    refine S.ext' ((appS_same0 ..).trans (appS_same0 ..).symm) (fun x => app_fr _ 0 s0 s0 rfl rfl fun j o' d' hj _ => ?_) (fun n => app_hp _ 0 s0 s0 rfl rfl fun j o' d' hj _ => ?_) fun n => app_ln _ 0 s0 s0 rfl rfl fun j o' d' hj _ => ?_
    all_goals
      rw [Nat.zero_add]
      have h9 := (List.getElem?_eq_some_iff.1 hj).1
      rw [List.length_zip] at h9
      exact hc j (by omega)
  obtain ⟨f, hf⟩ : ∃ f, ((List.range ds.length).find? fun i => !((ancL l []).getD ds.length []).contains i) = f := ⟨_, rfl⟩
  rw [hf] at hlast
  have hwait : ∀ {i k : Nat}, ds.length ≤ k → k < l.length → i < k → Anc l i k ∨ (f = some i ∧ mvOk l i k = true) := fun {i k} h1 h2 h3 => by
    have h4 := hlast (k - ds.length) (List.mem_range.2 (by omega))
    rw [List.all_eq_true] at h4
    have h5 := h4 i (List.mem_range.2 (by omega))
    rw [show ds.length + (k - ds.length) = k by omega] at h5
    simp only [Bool.or_eq_true, Bool.and_eq_true, beq_iff_eq, List.contains_iff_mem] at h5
    rcases h5 with h5 | h5
    · exact .inl (hanc _ _ h5)
    exact .inr h5
  have hfm : ∀ {i : Nat}, f = some i → i < ds.length := fun {i} h => by
    rw [← hf] at h
    exact List.mem_range.1 (List.mem_of_find?_eq_some h)
  have hdrop : ∀ {k : Nat} {o : Oper}, l[k]? = some o → l.drop k = o :: l.drop (k + 1) := fun {k o} h => by
    rw [List.drop_eq_getElem_cons (List.getElem?_eq_some_iff.1 h).1, (List.getElem?_eq_some_iff.1 h).2]
  have hup : ∀ {listed : Array Bool} {i j : Nat} {o : Oper}, l[i]? = some o → (∀ p ∈ preds o, listed.getD p false = true) → Closed l (fun i => listed.getD i false) → Anc l j i → listed.getD j false = true := fun {listed i j o} hol hp hcl ha => by
    cases ha with
    | one ho2 hp2 => rw [hol] at ho2; cases ho2; exact hp _ hp2
    | more ho2 hq2 ha => rw [hol] at ho2; cases ho2; exact hcl.anc ha (hp _ hq2)
  refine wpIn_region_any hm (wpAnyIn_inv (fun listed b W => Closed l (fun i => listed.getD i false) ∧
    (((∀ k, ds.length ≤ k → k < l.length → listed.getD k false = false) ∧ Inv w0 ps T ρ (appS base (fun i => listed.getD i false) 0 (l.zip ds) s0) b W) ∨
     (∃ r, 0 < r ∧ (∀ k, k < l.length → (listed.getD k false = true ↔ k < ds.length + r)) ∧ wpLR rr C.P l.toArray Q (l.drop (ds.length + r)) b W) ∨
     (∃ r i0 o x y, 0 < r ∧ f = some i0 ∧ l[i0]? = some o ∧ moveOf o = some (x, y) ∧ (∀ k, k < l.length → (listed.getD k false = true ↔ (k < ds.length + r ∧ k ≠ i0))) ∧ wpLR rr C.P l.toArray Q (l.drop (ds.length + r)) (b.put (some y) (b.eval (.tmp x))) W))) ?_ ?_ l.toArray.size _ _ _ (by simp) ?_ ?_)
  · rintro listed b W i hs ⟨hcl, hI9⟩ hi
    obtain ⟨hu, o, ho, hpre⟩ := mem_ready.1 hi
    have hol : l[i]? = some o := by simpa using ho
    have hil : i < l.length := (List.getElem?_eq_some_iff.1 hol).1
    have hci : listed.getD i false = false := getD_both hu
    have hsz : i < listed.size := by rw [hs]; simpa using hil
    have hpreds : ∀ p ∈ preds o, listed.getD p false = true := fun p hp => by
      obtain ⟨e, he, hb, rfl⟩ := mem_preds.1 hp
      exact hpre e he hb
    have hcl2 : Closed l (fun j => (listed.setIfInBounds i true).getD j false) := fun j o' p hj hcj hp => by
      simp only [getD_upd hsz] at hcj ⊢
      by_cases e : p = i
      · rw [if_pos e]
      rw [if_neg e]
      by_cases e2 : j = i
      · subst e2
        rw [hol] at hj; cases hj
        exact hpreds p hp
      rw [if_neg e2] at hcj
      exact hcl j o' p hj hcj hp
    have run1 : ∀ {K : Act → World → Prop}, wpLR rr C.P l.toArray Q (l.drop i) b W → (∀ a' W', wpLR rr C.P l.toArray Q (l.drop (i + 1)) a' W' → K a' W') → wpOpIn (FW rr) 0 C.P l.toArray Q i K b W := fun {K} h hk => by
      unfold wpOpIn
      rw [ho]
      rw [hdrop hol] at h
      unfold wpLR wpListIn at h
      dsimp only
      split
      · rename_i hw
        rw [if_pos hw] at h
        exact Oper.wpIn_mono (fun a' W' q => hk a' W' q) h
      rename_i hw
      rw [if_neg hw] at h
      exact ⟨h.1, hk _ _ h.2⟩
    have run2 : ∀ {i0 x y : Nat} {o0 : Oper} {K : Act → World → Prop}, l[i0]? = some o0 → moveOf o0 = some (x, y) → mvOk l i0 i = true → wpLR rr C.P l.toArray Q (l.drop i) (b.put (some y) (b.eval (.tmp x))) W → (∀ a' W', wpLR rr C.P l.toArray Q (l.drop (i + 1)) (a'.put (some y) (a'.eval (.tmp x))) W' → K a' W') → wpOpIn (FW rr) 0 C.P l.toArray Q i K b W := fun {i0 x y o0 K} h1 h2 h3 h hk => by
      unfold mvOk at h3
      rw [h1, hol] at h3
      dsimp only at h3
      rw [h2] at h3
      simp only [Bool.and_eq_true, Bool.not_eq_true', List.contains_eq_false_iff_not_mem'] at h3
      obtain ⟨⟨⟨g1, g2⟩, g3⟩, g4⟩ := h3
      have g2' : o.dst ≠ some y := fun e => g2 (by simp [e])
      have g3' : ∀ d, o.dst = some d → Operand.tmp x ≠ .tmp d := fun d e hh => by cases hh; exact g3 (by simp [e])
      unfold wpOpIn
      rw [ho]
      rw [hdrop hol] at h
      unfold wpLR wpListIn at h
      dsimp only
      rw [wanted_put (ops := l.toArray) o b (some y) _ (fun d e => by cases e; exact g1)] at h
      have hev : ∀ u, (b.put o.dst u).eval (.tmp x) = b.eval (.tmp x) := fun u => Act.eval_put g3'
      split
      · rename_i hw
        rw [if_pos hw] at h
        have h8 := wpIn_put g4 g1 g2' hQ h
        refine wpIn_keep g4 h8 fun u ds' W' q => hk _ _ ?_
        have : (({ b with defers := ds' } : Act).put o.dst u).eval (.tmp x) = b.eval (.tmp x) := (Act.eval_put (a := { b with defers := ds' }) g3').trans rfl
        rw [this]
        exact q
      rename_i hw
      rw [if_neg hw] at h
      refine ⟨fun _ _ => trivial, hk _ _ ?_⟩
      rw [hev, ← Act.put_comm b _ undef fun d e => by cases e; exact g2']
      exact h.2
    have nextL : ∀ {k : Nat}, k < l.length → ((listed.setIfInBounds i true).getD k false = true ↔ (k = i ∨ listed.getD k false = true)) := fun {k} _ => by
      rw [getD_upd hsz]
      split <;> rename_i e <;> simp [e]
    rcases hI9 with ⟨hno, hinv⟩ | ⟨r, hr0, hls, hw9⟩ | ⟨r, i0, o0, x, y, hr0, hf0, ho0, hm0, hls, hw9⟩
    · rcases Nat.lt_or_ge i ds.length with hid | hid
      · -- one of the first ones
        obtain ⟨d, hd⟩ := hzip i o hid hol
        obtain ⟨hagree, hsame⟩ := hagr hd hci hpreds hcl
        have hfin := hst i o d hd _ b W (fun a' w' => Closed l (fun j => (listed.setIfInBounds i true).getD j false) ∧ (∀ k, ds.length ≤ k → k < l.length → (listed.setIfInBounds i true).getD k false = false) ∧ Inv w0 ps T ρ (appS base (fun j => (listed.setIfInBounds i true).getD j false) 0 (l.zip ds) s0) a' w') hsame hagree hinv fun a' W' h => by
          refine ⟨hcl2, fun k h1 h2 => ?_, by rw [← hadd hd hci hsz hcl]; exact h⟩
          rw [getD_upd hsz, if_neg (by omega)]
          exact hno k h1 h2
        unfold wpOpIn
        rw [ho]
        dsimp only
        split
        · rename_i hw; rw [if_pos hw] at hfin; exact Oper.wpIn_mono (fun _ _ h => ⟨h.1, .inl h.2⟩) hfin
        rename_i hw; rw [if_neg hw] at hfin; exact ⟨fun _ _ => trivial, hfin.1, .inl hfin.2⟩
      -- the first of the last ones
      have him : i = ds.length := by
        rcases Nat.lt_or_ge ds.length i with h | h
        · exfalso
          rcases hwait hid hil h with ha | ⟨ha, _⟩
          · have := hup hol hpreds hcl ha
            rw [hno _ (Nat.le_refl _) (by omega)] at this
            cases this
          exact absurd (hfm ha) (by omega)
        omega
      subst him
      have hothers : ∀ j, j < ds.length → f ≠ some j → listed.getD j false = true := fun j hj hne => by
        rcases hwait hid hil hj with ha | ⟨ha, _⟩
        · exact hup hol hpreds hcl ha
        exact absurd ha hne
      have hset : ∀ k, k < l.length → ((listed.setIfInBounds ds.length true).getD k false = true ↔ (k = ds.length ∨ listed.getD k false = true)) := fun k hk => nextL hk
      by_cases hall9 : ∀ j, j < ds.length → listed.getD j false = true
      · rw [happ hall9] at hinv
        refine run1 (hK _ _ hinv) fun a' W' q => ⟨hcl2, .inr (.inl ⟨1, by omega, fun k hk => ?_, q⟩)⟩
        rw [hset k hk]
        constructor
        · rintro (h | h)
          · omega
          rcases Nat.lt_or_ge k ds.length with h2 | h2
          · omega
          rw [hno k h2 hk] at h; cases h
        intro h
        rcases Nat.lt_or_ge k ds.length with h2 | h2
        · exact .inr (hall9 k h2)
        exact .inl (by omega)
      obtain ⟨i0, hi0⟩ : ∃ i0, i0 < ds.length ∧ listed.getD i0 false = false := by
        apply Classical.byContradiction
        intro hh
        refine hall9 fun j hj => ?_
        cases hb : listed.getD j false with
        | true => rfl
        | false => exact absurd ⟨j, hj, hb⟩ hh
      have hf0 : f = some i0 := by
        apply Classical.byContradiction
        intro hh
        have := hothers i0 hi0.1 hh
        rw [hi0.2] at this; cases this
      have hil0 : i0 < l.length := by omega
      have ho0 : l[i0]? = some l[i0] := List.getElem?_eq_getElem hil0
      obtain ⟨d0, hd0⟩ := hzip i0 _ hi0.1 ho0
      have hwn : mvOk l i0 ds.length = true := by
        rcases hwait hid hil hi0.1 with ha | ⟨_, ha⟩
        · have := hup hol hpreds hcl ha
          rw [hi0.2] at this; cases this
        exact ha
      obtain ⟨x, y, hm0⟩ : ∃ x y, moveOf l[i0] = some (x, y) := by
        have h3 := hwn
        unfold mvOk at h3
        rw [ho0, hol] at h3
        dsimp only at h3
        cases hq : moveOf l[i0] with
        | none => rw [hq] at h3; cases h3
        | some e => exact ⟨e.1, e.2, rfl⟩
      have hpr0 : ∀ p ∈ preds l[i0], listed.getD p false = true := fun p hp => by
        have := backOk_get hback ho0 hp
        refine hothers p (by omega) fun e => ?_
        rw [hf0] at e
        cases e
        omega
      obtain ⟨hagree, hsame⟩ := hagr hd0 hi0.2 hpr0 hcl
      have hsz0 : i0 < listed.size := by rw [hs]; simpa using hil0
      have hfin := hst i0 _ d0 hd0 _ b W (fun a' W' => wpLR rr C.P l.toArray Q (l.drop ds.length) a' W') hsame hagree hinv fun a' W' h => by
        rw [hadd hd0 hi0.2 hsz0 hcl, happ fun j hj => ?_] at h
        · exact hK _ _ h
        rw [getD_upd hsz0]
        split
        · rfl
        rename_i e
        exact hothers j hj fun e2 => e (by rw [hf0] at e2; cases e2; rfl)
      rw [if_pos (moveOf_wanted hm0 _), wpIn_move hm0] at hfin
      refine run2 ho0 hm0 hwn hfin fun a' W' q => ⟨hcl2, .inr (.inr ⟨1, i0, _, x, y, by omega, hf0, ho0, hm0, fun k hk => ?_, q⟩)⟩
      rw [hset k hk]
      constructor
      · rintro (h | h)
        · omega
        rcases Nat.lt_or_ge k ds.length with h2 | h2
        · exact ⟨by omega, fun e => by rw [e, hi0.2] at h; cases h⟩
        rw [hno k h2 hk] at h; cases h
      rintro ⟨h, hne⟩
      rcases Nat.lt_or_ge k ds.length with h2 | h2
      · exact .inr (hothers k h2 fun e => hne (by rw [hf0] at e; cases e; rfl))
      exact .inl (by omega)
    · -- among the last ones
      have hir : i = ds.length + r := by
        have h1 : ¬ i < ds.length + r := fun h => by rw [(hls i hil).2 h] at hci; cases hci
        rcases Nat.lt_or_ge (ds.length + r) i with h | h
        · exfalso
          rcases hwait (by omega) hil h with ha | ⟨ha, _⟩
          · have := (hls _ (by omega)).1 (hup hol hpreds hcl ha)
            omega
          exact absurd (hfm ha) (by omega)
        omega
      subst hir
      refine run1 hw9 fun a' W' q => ⟨hcl2, .inr (.inl ⟨r + 1, by omega, fun k hk => ?_, q⟩)⟩
      rw [nextL hk, hls k hk]
      omega
    by_cases hi0 : i = i0
    · subst hi0
      rw [ho0] at hol
      cases hol
      unfold wpOpIn
      rw [ho]
      dsimp only
      rw [if_pos (moveOf_wanted hm0 _), wpIn_move hm0]
      refine ⟨hcl2, .inr (.inl ⟨r, hr0, fun k hk => ?_, hw9⟩)⟩
      rw [nextL hk, hls k hk]
      have := hfm hf0
      omega
    have hir : i = ds.length + r := by
      have h1 : ¬ i < ds.length + r := fun h => by rw [(hls i hil).2 ⟨h, hi0⟩] at hci; cases hci
      rcases Nat.lt_or_ge (ds.length + r) i with h | h
      · exfalso
        rcases hwait (by omega) hil h with ha | ⟨ha, _⟩
        · have := (hls _ (by omega)).1 (hup hol hpreds hcl ha)
          omega
        exact absurd (hfm ha) (by omega)
      omega
    subst hir
    have hi0m := hfm hf0
    have hwn : mvOk l i0 (ds.length + r) = true := by
      rcases hwait (by omega) hil (by omega : i0 < ds.length + r) with ha | ⟨_, ha⟩
      · have := (hls _ (by omega)).1 (hup hol hpreds hcl ha)
        omega
      exact ha
    refine run2 ho0 hm0 hwn hw9 fun a' W' q => ⟨hcl2, .inr (.inr ⟨r + 1, i0, o0, x, y, by omega, hf0, ho0, hm0, fun k hk => ?_, q⟩)⟩
    rw [nextL hk, hls k hk]
    omega
  · rintro listed b W hs ⟨hcl, hI9⟩ hr
    have hall : ∀ i, i < l.length → listed.getD i false = true := by
      intro i
      induction i using Nat.strongRecOn with
      | ind i ih =>
        intro hi
        cases hb : listed.getD i false with
        | true => rfl
        | false =>
          exfalso
          have hm : i ∈ Region.ready .any l.toArray listed := by
            refine mem_ready.2 ⟨getD_in (by rw [hs]; simpa using hi) hb, l[i], by simp [hi], fun e he hbd => ?_⟩
            have := backOk_get hback (List.getElem?_eq_getElem hi) (mem_preds.2 ⟨e, he, hbd, rfl⟩)
            rw [Nat.zero_add] at this
            exact ih e.on this (by omega)
          rw [hr] at hm
          cases hm
    rcases hI9 with ⟨hno, _⟩ | ⟨r, _, hls, hq⟩ | ⟨r, i0, o0, x, y, _, hf0, ho0, _, hls, _⟩
    · have := hall ds.length hlen
      rw [hno _ (Nat.le_refl _) hlen] at this; cases this
    · rw [List.drop_of_length_le] at hq
      · exact hq
      rcases Nat.lt_or_ge (ds.length + r) l.length with h | h
      · have := (hls _ h).1 (hall _ h)
        omega
      exact h
    have h1 := (List.getElem?_eq_some_iff.1 ho0).1
    exact absurd rfl ((hls _ h1).1 (hall _ h1)).2
  · rw [Array.toList_replicate]; exact Nat.le_trans (List.length_filter_le _ _) (by simp)
  have hz : (fun i => (Array.replicate l.toArray.size false).getD i false) = fun _ => false := funext fun i => getD_replicate_false _ _
  refine ⟨(by rw [hz]; exact fun j o p _ hc _ => nomatch hc), .inl ⟨fun k _ _ => getD_replicate_false _ _, ?_⟩⟩
  have : appS base (fun i => (Array.replicate l.toArray.size false).getD i false) 0 (l.zip ds) s0 = s0 := by
    rw [hz, app_none]
  rw [this]
  exact hI.step ((Below.refl _ _).drew)
end
end SX
namespace SX
def S.wk (s : S) (sh : List Sh) (kn : List (Nat × List Nat × Value)) : S := { s with sh := sh, kn := kn }
theorem eff_wk (s : S) (sh : List Sh) (kn : List (Nat × List Nat × Value)) (nm : Nat) (d : Option Tmp) (v : V) (new : Option Blk) (wr : Option (Nat × Blk)) : (s.wk sh kn).eff nm d v new wr = (s.eff nm d v new wr).wk sh kn := by
  cases wr <;> cases new <;> cases d <;> rfl
theorem app_wk (base : Nat) (c : Nat → Bool) (sh : List Sh) (kn : List (Nat × List Nat × Value)) : ∀ (l : List (Oper × Done)) (i : Nat) (s : S), appS base c i l (s.wk sh kn) = (appS base c i l s).wk sh kn
  | [], _, _ => rfl
  | (o, d) :: l, i, s => by
    unfold appS
    split
    · rw [eff_wk, app_wk base c sh kn l]
    rw [app_wk base c sh kn l]
theorem app_take {base : Nat} : ∀ (l : List (Oper × Done)) (k i : Nat) (s : S), appS base (fun j => decide (j < k + i)) k l s = appS base (fun _ => true) k (l.take i) s
  | [], k, i, s => by simp [appS]
  | (o, d) :: l, k, 0, s => by
    have h : ∀ (l : List (Oper × Done)) (m : Nat) (s : S), k ≤ m → appS base (fun j => decide (j < k + 0)) m l s = s := by
      intro l
      induction l with
      | nil => intro m s _; rfl
      | cons x l ih =>
        intro m s hm
        obtain ⟨o, d⟩ := x
        unfold appS
        rw [if_neg (by simp; omega)]
        exact ih (m + 1) s (by omega)
    rw [h _ _ _ (Nat.le_refl _)]
    rfl
  | (o, d) :: l, k, i + 1, s => by
    simp only [List.take_succ_cons, appS]
    rw [if_pos (by simp), if_pos trivial]
    have := app_take (base := base) l (k + 1) i (s.eff (base + k) o.dst d.v d.new d.wr)
    rw [← this]
    congr 1
    funext j
    rw [show k + 1 + i = k + (i + 1) by omega]
section
variable {C : Cx} {w0 : Org} {ps : List (World → Prop)} {T : List TF} {ρ ρ' : List Value} {s : S} {a : Act} {W : World} {α : Nat → AV} {Q : Exit → Act → World → Prop} {rr : Option Nat}
theorem InvA.wk (h : InvA w0 ps T ρ s a W α) {kn : List (Nat × List Nat × Value)} (hk : ∀ e ∈ kn, e.1 < ρ.length ∧ e.2.1.foldl comp (ρ.getD e.1 undef) = e.2.2) : InvA w0 ps T ρ (s.wk s.sh kn) a W α :=
  ⟨h.defers, ⟨h.good.len, h.good.fit, hk⟩, ⟨h.wf.fr, h.wf.stk, h.wf.hp, h.wf.ln⟩, h.fm, h.fms, h.st, h.rows, h.lens⟩
theorem kn_mono (hp : ρ <+: ρ') {kn : List (Nat × List Nat × Value)} (hk : ∀ e ∈ kn, e.1 < ρ.length ∧ e.2.1.foldl comp (ρ.getD e.1 undef) = e.2.2) : ∀ e ∈ kn, e.1 < ρ'.length ∧ e.2.1.foldl comp (ρ'.getD e.1 undef) = e.2.2 := fun e he => by
  obtain ⟨h1, h2⟩ := hk e he
  obtain ⟨r, rfl⟩ := hp
  refine ⟨by simp; omega, ?_⟩
  rwa [List.getD_eq_getElem?_getD, List.getElem?_append_left h1, ← List.getD_eq_getElem?_getD]
def Hist (C : Cx) (rr : Option Nat) (w0 : Org) (ps : List (World → Prop)) (T : List TF) (ρ : List Value) (Q : Exit → Act → World → Prop) (all : Array Oper) (nm : Nat) (o : Oper) (d : Done) (s pre : S) : Prop :=
  ∀ ρf shf knf, ρ <+: ρf → s.sh <+: shf → StepOk C rr w0 ps T ρf Q all nm o d (pre.wk shf knf)
theorem ev_agree {s s' : S} {xs : List Operand} {vs : List V} (hk : s'.kn = s.kn) (hf : ∀ x ∈ tmpsOf xs, s'.fr[x]? = s.fr[x]?) (h : xs.mapM s.ev = some vs) : xs.mapM s'.ev = some vs := by
  induction xs generalizing vs with
  | nil => exact h
  | cons x xs ih =>
    simp only [List.mapM_cons, Option.bind_eq_bind, Option.bind_eq_some_iff] at h ⊢
    obtain ⟨v, hv, vs', hvs, h⟩ := h
    refine ⟨v, ?_, vs', ih (fun y hy => hf y ?_) hvs, h⟩
    · cases x with
      | tmp t =>
        have := hf t (by simp [tmpsOf])
        simp only [S.ev, this, hk] at hv ⊢
        exact hv
      | const v => exact hv
      | global g => exact hv
      | func f => exact hv
    cases x <;> simp [tmpsOf, hy]
theorem blks_agree {hp hp' : List (Option Blk)} {vs : List V} (h : ∀ n ∈ namesV vs, hp'[n]? = hp[n]?) : blks hp' vs = blks hp vs := by
  unfold blks
  exact List.map_congr_left fun n hn => by rw [h n hn]
theorem nest_agree {hp hp' : List (Option Blk)} : ∀ {vs : List V}, (∀ n ∈ namesV vs, hp'[n]? = hp[n]?) → nestV hp' vs = nestV hp vs
  | [], _ => rfl
  | v :: l, h => by
    have h1 : ∀ n ∈ namesV l, hp'[n]? = hp[n]? := fun n hn => h n (by simp only [namesV, List.flatMap_cons, List.mem_append]; exact .inr hn)
    unfold nestV
    rw [nest_agree h1]
    congr 1
    cases v <;> try rfl
    rename_i n _ _ _
    simp only
    rw [h n (by simp [namesV, names1])]
theorem see_agree {s s' : S} {op : Op} {vs : List V} (h : ∀ n ∈ cNames s.hp op vs, s'.hp[n]? = s.hp[n]?) (h' : ∀ n ∈ shNames op vs, s'.ln[n]? = s.ln[n]?) : s'.see op vs = s.see op vs := by
  unfold S.see
  unfold cNames at h
  unfold shNames at h'
  split
  · rename_i hs
    rw [if_pos hs] at h'
    exact blks_agree h'
  rename_i hs
  rw [if_neg hs] at h
  have hd : deepV s'.hp op vs = deepV s.hp op vs := by
    unfold deepV at h ⊢
    split
    · rename_i hc
      rw [if_pos hc] at h
      rw [nest_agree fun n hn => h n (by simp only [namesV, List.flatMap_append, List.mem_append] at hn ⊢; exact .inl hn)]
    rfl
  rw [hd]
  exact blks_agree h
mutual
theorem V.wf_agree {hp hp' : List (Option Blk)} {m : Nat} : ∀ v : V, (∀ n ∈ v.names, lv hp' n = lv hp n) → v.wf hp' m = v.wf hp m
  | .k _, _ => rfl
  | .x _ _, _ => rfl
  | .p n _, h => h n (by simp [V.names])
  | .sl n _ _ _, h => h n (by simp [V.names])
  | .row n, h => h n (by simp [V.names])
  | .y n, h => h n (by simp [V.names])
  | .mapV n, h => h n (by simp [V.names])
  | .cat cs, h => wfL_agree cs h
  | .a cs, h => wfL_agree cs h
  | .t cs, h => wfL_agree cs h
  | .f _ a b, h => by simp only [V.wf, wfL_agree a fun n hn => h n (by simp [V.names, hn]), wfL_agree b fun n hn => h n (by simp [V.names, hn])]
  | .ep s i _ _, h => by simp only [V.wf, V.wf_agree s fun n hn => h n (by simp [V.names, hn]), V.wf_agree i fun n hn => h n (by simp [V.names, hn])]
  | .ifc _ v, h => V.wf_agree v h
theorem wfL_agree {hp hp' : List (Option Blk)} {m : Nat} : ∀ l : List V, (∀ n ∈ namesL l, lv hp' n = lv hp n) → wfL hp' m l = wfL hp m l
  | [], _ => rfl
  | v :: l, h => by simp only [wfL, V.wf_agree v fun n hn => h n (by simp [namesL, hn]), wfL_agree l fun n hn => h n (by simp [namesL, hn])]
end
theorem lv_agree {hp hp' : List (Option Blk)} {n : Nat} (h : hp'[n]? = hp[n]?) : lv hp' n = lv hp n := by unfold lv; rw [h]
theorem lv_set_agree {hp hp' : List (Option Blk)} {n nm : Nat} {b : Blk} (hl : hp'.length = hp.length) (h : n ≠ nm → hp'[n]? = hp[n]?) : lv (hp'.set nm (some b)) n = lv (hp.set nm (some b)) n := by
  apply lv_agree
  by_cases e : nm = n
  · subst e; simp [List.getElem?_set, hl]
  rw [List.getElem?_set_ne e, List.getElem?_set_ne e, h fun h => e h.symm]
theorem mem_effNames {n nm : Nat} {v : V} {new : Option Blk} {wr : Option (Nat × Blk)} (hn : n ∈ v.names ∨ (∃ b, new = some b ∧ n ∈ namesL b.c) ∨ (∃ m b, wr = some (m, b) ∧ (n = m ∨ n ∈ namesL b.c))) (h : n ≠ nm) : n ∈ effNames nm v new wr := by
  unfold effNames
  refine List.mem_filter.2 ⟨?_, by simpa using h⟩
  rcases hn with hn | ⟨b, rfl, hn⟩ | ⟨m, b, rfl, hn⟩
  · simp [hn]
  · simp [hn]
  rcases hn with rfl | hn
  · simp
  simp [hn]
theorem effWf_agree {s s' : S} {nm : Nat} {v : V} {new : Option Blk} {wr : Option (Nat × Blk)} (hl : s'.ln.length = s.ln.length) (h0 : s'.ln[nm]? = s.ln[nm]?) (h : ∀ n ∈ effNames nm v new wr, s'.ln[n]? = s.ln[n]?) (hs : s.sh.length ≤ s'.sh.length) (hw : effWf s nm v new wr = true) : effWf s' nm v new wr = true := by
  have hin : ∀ n, n ∈ v.names ∨ (∃ b, new = some b ∧ n ∈ namesL b.c) ∨ (∃ m b, wr = some (m, b) ∧ (n = m ∨ n ∈ namesL b.c)) → s'.ln[n]? = s.ln[n]? := fun n hn => by
    by_cases e : n = nm
    · rw [e]; exact h0
    exact h n (mem_effNames hn e)
  clear h
  unfold effWf at *
  simp only [Bool.and_eq_true] at hw ⊢
  obtain ⟨⟨h1, h2⟩, h3⟩ := hw
  refine ⟨⟨V.wf_mono (fun _ h => h) hs v ?_, ?_⟩, ?_⟩
  · rw [V.wf_agree v fun n hn => ?_]
    · exact h1
    unfold effH
    cases new with
    | none => exact lv_agree (hin n (.inl hn))
    | some b => exact lv_set_agree hl fun _ => hin n (.inl hn)
  · cases new with
    | none => rfl
    | some b =>
      refine wfL_mono (fun _ h => h) hs b.c ?_
      rw [wfL_agree b.c fun n hn => lv_agree (hin n (.inr (.inl ⟨b, rfl, hn⟩)))]
      exact h2
  cases wr with
  | none => rfl
  | some e =>
    obtain ⟨m, b⟩ := e
    simp only [Bool.and_eq_true] at h3 ⊢
    refine ⟨wfL_mono (fun _ h => h) hs b.c ?_, ?_⟩
    · rw [wfL_agree b.c fun n hn => lv_agree (hin n (.inr (.inr ⟨m, b, rfl, .inr hn⟩)))]
      exact h3.1
    rw [lv_agree (hin m (.inr (.inr ⟨m, b, rfl, .inl rfl⟩)))]; exact h3.2
theorem plan_nd {sh : List Sh} {nm : Nat} {op : Op} {vs : List V} {bs : List (Nat × Option Blk)} {p : Pl} (h : planV C sh nm op vs bs = p) (hp : p ≠ .no) : ∀ c, op ≠ .defer c := by
  rintro c rfl
  exact hp (h.symm.trans (by simp [planV, planN, planV0]))
theorem hist_ef {all : Array Oper} {nm : Nat} {o : Oper} {v : V} {new : Option Blk} {wr : Option (Nat × Blk)} {vs : List V} (hg : Good ρ s) (hwant : ∀ (s' : S) ρf a' W', s'.kn = s.kn → AgreeAt (slotsOf all o) [] [] s' s → Inv w0 ps T ρf s' a' W' → Region.wanted o (yielded all a'.tmps) = true) (hvs : o.op.operands.toList.mapM s.ev = some vs) (h : planV C s.sh nm o.op vs (s.see o.op vs) = .ef v new wr) (hw : effWf s nm v new wr = true) (hnm : freeIn s nm) :
    Hist C rr w0 ps T ρ Q all nm o ⟨v, new, wr, slotsOf all o, cNames s.hp o.op vs, shNames o.op vs ++ effNames nm v new wr⟩ s s := by
  intro ρf shf knf hρ hsh s' a' W' K hsame hag hI hK
  obtain ⟨α, hA⟩ := hI
  have hkn := kn_mono hρ hg.kn
  have hA' := hA.wk hkn
  have hfr : ∀ x ∈ slotsOf all o, s'.fr[x]? = s.fr[x]? := hag.fr
  have hhp : ∀ n ∈ nm :: cNames s.hp o.op vs, s'.hp[n]? = s.hp[n]? := hag.hp
  have hln : ∀ n ∈ nm :: (shNames o.op vs ++ effNames nm v new wr), s'.ln[n]? = s.ln[n]? := hag.ln
  rw [if_pos (hwant (s'.wk s'.sh s.kn) ρf a' W' rfl ⟨hfr, (fun _ h => nomatch h), (fun _ h => nomatch h)⟩ ⟨α, hA'⟩)]
  refine operIn_of_wp (plan_nd h nofun) ?_
  refine ef_ok (s := s'.wk s'.sh s.kn) (nm := nm) (sh := s.sh) (v := v) (new := new) (wr := wr) (vs := vs) ?_ (ev_agree (s := s) rfl (fun x hx => hfr x (by simp [slotsOf, hx])) hvs) ?_ hA' (.inr ?_) ?_ fun a2 W2 h2 => hK a2 W2 ?_
  · show s.sh <+: s'.sh
    rw [hsame.sh]; exact hsh
  · show planV C s.sh nm o.op vs (s'.see o.op vs) = _
    rw [see_agree (s := s) (fun n hn => hhp n (by simp [hn])) (fun n hn => hln n (by simp [hn]))]
    exact h
  · exact ⟨(hhp nm (List.mem_cons_self ..)).trans hnm.1, (hln nm (List.mem_cons_self ..)).trans hnm.2⟩
  · refine effWf_agree (s := s) (s' := s'.wk s'.sh s.kn) hsame.lnl (hln nm (List.mem_cons_self ..)) (fun n hn => hln n (by simp [hn])) ?_ hw
    show s.sh.length ≤ s'.sh.length
    rw [hsame.sh]
    exact List.IsPrefix.length_le hsh
  obtain ⟨α2, h2⟩ := h2
  rw [eff_wk] at h2
  have e : s' = s'.wk s'.sh s'.kn := rfl
  rw [e, eff_wk]
  have hkk : ∀ e ∈ s'.kn, e.1 < ρf.length ∧ e.2.1.foldl comp (ρf.getD e.1 undef) = e.2.2 := hA.good.kn
  exact ⟨α2, h2.wk hkk |> fun q => q⟩
theorem unwk {w0 : Org} {nm : Nat} {o : Oper} {d : Done} {s' : S} {kn : List (Nat × List Nat × Value)} {ρf : List Value} {a2 : Act} {W2 : World} (hk : ∀ e ∈ s'.kn, e.1 < ρf.length ∧ e.2.1.foldl comp (ρf.getD e.1 undef) = e.2.2) (h2 : Inv w0 ps T ρf ((s'.wk s'.sh kn).eff nm o.dst d.v d.new d.wr) a2 W2) : Inv w0 ps T ρf (s'.eff nm o.dst d.v d.new d.wr) a2 W2 := by
  obtain ⟨α2, h2⟩ := h2
  rw [eff_wk] at h2
  have h3 := h2.wk hk
  have e : s' = s'.wk s'.sh s'.kn := rfl
  rw [e, eff_wk]
  exact ⟨α2, h3⟩
theorem hist_skip {all : Array Oper} {nm : Nat} {o : Oper} (hwant : ∀ (s' : S) ρf a' W', s'.kn = s.kn → AgreeAt (slotsOf all o) [] [] s' s → Inv w0 ps T ρf s' a' W' → Region.wanted o (yielded all a'.tmps) = false) (hg : Good ρ s) :
    Hist C rr w0 ps T ρ Q all nm o ⟨.k undef, none, none, slotsOf all o, [], []⟩ s s := by
  intro ρf shf knf hρ hsh s' a' W' K hsame hag hI hK
  obtain ⟨α, hA⟩ := hI
  have hkn := kn_mono hρ hg.kn
  rw [if_neg (by rw [hwant (s'.wk s'.sh s.kn) ρf a' W' rfl ⟨hag.fr, (fun _ h => nomatch h), (fun _ h => nomatch h)⟩ ⟨α, hA.wk hkn⟩]; decide)]
  exact hK _ _ ⟨α, hA.put_any o.dst rfl rfl⟩
theorem args_mono (hp : ρ <+: ρ') {hp0 : List (Option Blk)} : ∀ {rw : List Rw} {args : List V} {as' : List Arg}, wfL hp0 ρ.length args = true → rw.all (Rw.wf hp0 ρ.length) = true → argsOk C ρ α rw args as' → argsOk C ρ' α rw args as'
  | [], [], [], _, _, _ => trivial
  | .no :: r, v :: vs, x :: xs, h1, h2, h3 => by
    simp only [wfL, Bool.and_eq_true, List.all_cons] at h1 h2
    obtain ⟨h4, h5, h6⟩ := h3
    exact ⟨by rw [den_pre hp h1.1]; exact h4, by rw [den_pre hp h1.1]; exact h5, args_mono hp h1.2 h2.2 h6⟩
  | .own sz cs :: r, v :: vs, x :: xs, h1, h2, h3 => by
    simp only [wfL, Bool.and_eq_true, List.all_cons] at h1 h2
    obtain ⟨h4, h6⟩ := h3
    exact ⟨by rw [den_pre hp h1.1, denL_eq (hp := hp0) (fun _ _ => rfl) hp cs h2.1]; exact h4, args_mono hp h1.2 h2.2 h6⟩
  | .ext sz :: r, v :: vs, x :: xs, h1, h2, h3 => by
    simp only [wfL, Bool.and_eq_true, List.all_cons] at h1 h2
    obtain ⟨h4, h5, h6, h7⟩ := h3
    exact ⟨by rw [den_pre hp h1.1]; exact h4, h5, by rw [den_pre hp h1.1]; exact h6, args_mono hp h1.2 h2.2 h7⟩
  | .row sz cs :: r, v :: vs, x :: xs, h1, h2, h3 => by
    simp only [wfL, Bool.and_eq_true, List.all_cons] at h1 h2
    obtain ⟨h4, h6⟩ := h3
    exact ⟨by rw [den_pre hp h1.1, denL_eq (hp := hp0) (fun _ _ => rfl) hp cs h2.1]; exact h4, args_mono hp h1.2 h2.2 h6⟩
  | .row _ _ :: _, [], _, _, _, h => h.elim
  | .row _ _ :: _, _ :: _, [], _, _, h => h.elim
  | [], [], _ :: _, _, _, h => h.elim
  | [], _ :: _, _, _, _, h => h.elim
  | .no :: _, [], _, _, _, h => h.elim
  | .own _ _ :: _, [], _, _, _, h => h.elim
  | .ext _ :: _, [], _, _, _, h => h.elim
  | .no :: _, _ :: _, [], _, _, h => h.elim
  | .own _ _ :: _, _ :: _, [], _, _, h => h.elim
  | .ext _ :: _, _ :: _, [], _, _, h => h.elim
theorem rel_mono (hp : ρ <+: ρ') {hp0 : List (Option Blk)} {q : Opq} {args : List V} {v : Value} (ha : wfL hp0 ρ.length args = true) (hq : q.wf hp0 ρ.length = true) (h : q.rel C ρ α args v) : q.rel C ρ' α args v := by
  have e := denL_eq (hp := hp0) (α := α) (α' := α) (fun _ _ => rfl) hp args ha
  unfold Opq.rel at h
  split at h
  all_goals first
    | exact h.elim
    | (simp only [denL, List.cons.injEq, and_true] at e
       simp only [Opq.rel, e]
       exact h)
    | skip
  · -- app
    rename_i c y
    simp only [denL, List.cons.injEq, and_true] at e
    simp only [wfL, Bool.and_eq_true] at ha
    obtain ⟨x, h1, h2⟩ := h
    refine ⟨x, args_mono (rw := [_]) (args := [y]) hp (hp0 := hp0) (by simp [wfL, ha.2.1]) (by simpa [Opq.wf] using hq) h1, ?_⟩
    rw [e.1]
    exact h2
  · show slcV _ _ _ _ _ (denL ρ' α _) = some v
    rw [e]; exact h
  · obtain ⟨as', h1, h2⟩ := h
    exact ⟨as', args_mono hp ha hq h1, h2⟩
  · -- callg
    rename_i f rw grw
    obtain ⟨as', gs, h1, h2, h3⟩ := h
    simp only [Opq.wf, Bool.and_eq_true] at hq
    exact ⟨as', gs, args_mono hp (wfL_of fun u hu => wfL_mem ha u (List.mem_of_mem_take hu)) hq.1 h1, args_mono hp (wfL_of fun u hu => wfL_mem ha u (List.mem_of_mem_drop hu)) hq.2 h2, h3⟩
  · -- callp
    rename_i f rw t
    obtain ⟨as', h1, h2⟩ := h
    have ed : denL ρ' α (args.drop rw.length) = denL ρ α (args.drop rw.length) := by rw [denL_map, denL_map, List.map_drop, List.map_drop, ← denL_map, ← denL_map, e]
    exact ⟨as', args_mono hp (wfL_of fun u hu => wfL_mem ha u (List.mem_of_mem_take hu)) (by simpa [Opq.wf] using hq) h1, by rw [ed]; exact h2⟩
  · -- callr
    rename_i f rw sz t c vs
    simp only [denL, List.cons.injEq] at e
    simp only [wfL, Bool.and_eq_true] at ha
    obtain ⟨as', h1, h2⟩ := h
    exact ⟨as', args_mono hp ha.2 (by simpa [Opq.wf] using hq) h1, by rw [e.1]; exact h2⟩
  · -- calln
    obtain ⟨as', h1, h2⟩ := h
    exact ⟨as', args_mono hp ha (by simpa [Opq.wf] using hq) h1, h2⟩
  · -- callw
    rename_i f rw caps
    obtain ⟨as', h1, h2⟩ := h
    simp only [Opq.wf, Bool.and_eq_true] at hq
    refine ⟨as', args_mono hp (wfL_of fun u hu => wfL_mem ha u (List.mem_of_mem_take hu)) hq.1 h1, ?_⟩
    have : caps.map (denL ρ' α) = caps.map (denL ρ α) := List.map_congr_left fun c hc => denL_eq (hp := hp0) (fun _ _ => rfl) hp c (List.all_eq_true.1 hq.2 c hc)
    rw [this]
    exact h2
  · -- appx
    rename_i x y
    simp only [denL, List.cons.injEq, and_true] at e
    simp only [wfL, Bool.and_eq_true] at ha
    obtain ⟨cells, xa, A, n, h1, h2, h3, h4, h5, h6⟩ := h
    refine ⟨cells, xa, A, n, by rw [e.1]; exact h1, by rw [e.1]; exact h2, by rw [e.1]; exact h3, h4, args_mono (rw := [_]) (args := [y]) hp (hp0 := hp0) (by simp [wfL, ha.2.1]) (by simpa [Opq.wf] using hq) h5, h6⟩
  rename_i neq n l
  have et : ∀ m, denL ρ' α (args.take m) = denL ρ α (args.take m) := fun m => by rw [denL_map, denL_map, List.map_take, List.map_take, ← denL_map, ← denL_map, e]
  have ed : ∀ m, denL ρ' α (args.drop m) = denL ρ α (args.drop m) := fun m => by rw [denL_map, denL_map, List.map_drop, List.map_drop, ← denL_map, ← denL_map, e]
  obtain ⟨b, h1, h2, h3, h4⟩ := h
  exact ⟨b, by rw [et, ed]; exact h1, by rw [et]; exact h2, by rw [ed]; exact h3, h4⟩
theorem hist_df {all : Array Oper} {nm : Nat} {o : Oper} {q : Opq} {args : List V} {sh : Sh} {mk : Option V} {new : Option Blk} {wr : Option (Nat × Blk)} {vs : List V} {v : Value} (hC : C.Ok) (hps : Ctx C w0 ps) (hg : Good ρ s) (hwant : ∀ (s' : S) ρf a' W', s'.kn = s.kn → AgreeAt (slotsOf all o) [] [] s' s → Inv w0 ps T ρf s' a' W' → Region.wanted o (yielded all a'.tmps) = true) (hvs : o.op.operands.toList.mapM s.ev = some vs) (h : planV C s.sh nm o.op vs (s.see o.op vs) = .df q args sh mk new wr)
    (hrel : ∀ α, q.rel C ρ α args v) (hargs : wfL s.ln s.sh.length args = true) (hq : q.wf s.ln s.sh.length = true) (hfit : sh.fit v = true) (hw : effWf (s.ext sh) nm (resV s.sh.length sh mk) new wr = true) (hnm : freeIn s nm) :
    Hist C rr w0 ps T (ρ ++ [v]) Q all nm o ⟨resV s.sh.length sh mk, new, wr, slotsOf all o, cNames s.hp o.op vs, shNames o.op vs ++ effNames nm (resV s.sh.length sh mk) new wr⟩ (s.ext sh) s := by
  intro ρf shf knf hρ hsh s' a' W' K hsame hag hI hK
  obtain ⟨α, hA⟩ := hI
  have hρ0 : ρ <+: ρf := (List.prefix_append ρ [v]).trans hρ
  have hkn := kn_mono hρ0 hg.kn
  have hA' := hA.wk hkn
  have hfr : ∀ x ∈ slotsOf all o, s'.fr[x]? = s.fr[x]? := hag.fr
  have hhp : ∀ n ∈ nm :: cNames s.hp o.op vs, s'.hp[n]? = s.hp[n]? := hag.hp
  have hln : ∀ n ∈ nm :: (shNames o.op vs ++ effNames nm (resV s.sh.length sh mk) new wr), s'.ln[n]? = s.ln[n]? := hag.ln
  rw [if_pos (hwant (s'.wk s'.sh s.kn) ρf a' W' rfl ⟨hfr, (fun _ h => nomatch h), (fun _ h => nomatch h)⟩ ⟨α, hA'⟩)]
  have hsh2 : (s.ext sh).sh <+: s'.sh := by rw [hsame.sh]; exact hsh
  have hv : ρf[s.sh.length]? = some v := by
    obtain ⟨r, rfl⟩ := hρ
    rw [hg.len]
    simp
  refine operIn_of_wp (plan_nd h nofun) ?_
  refine df_gen (s := s'.wk s'.sh s.kn) (sh0 := s.sh) (nm := nm) (vs := vs) (v := v) (q := q) (args := args) (sh := sh) (mk := mk) (new := new) (wr := wr) ((List.prefix_append s.sh [sh]).trans hsh2) hC hps (ev_agree (s := s) rfl (fun x hx => hfr x (by simp [slotsOf, hx])) hvs) ?_ hA' hv ?_ hfit (.inr ?_) ?_ fun a2 W2 h2 => hK a2 W2 (unwk hA.good.kn h2)
  · show planV C s.sh nm o.op vs (s'.see o.op vs) = _
    rw [see_agree (s := s) (fun n hn => hhp n (by simp [hn])) (fun n hn => hln n (by simp [hn]))]
    exact h
  · rw [hg.len] at hargs hq
    exact rel_mono hρ0 hargs hq (hrel α)
  · exact ⟨(hhp nm (List.mem_cons_self ..)).trans hnm.1, (hln nm (List.mem_cons_self ..)).trans hnm.2⟩
  exact effWf_agree (s := s.ext sh) (s' := s'.wk s'.sh s.kn) hsame.lnl (hln nm (List.mem_cons_self ..)) (fun n hn => hln n (by simp [hn])) (List.IsPrefix.length_le hsh2) hw
theorem St.reorg {hs : List Ch} (h : St w0 hs [] ps W) : St ⟨W, hs.map (·.id), fun _ => False, fun _ => False⟩ hs [] ps W :=
  ⟨⟨rfl, rfl, rfl, Nat.le_refl _, fun _ _ _ => rfl⟩, fun e he => ⟨.inr (List.mem_map_of_mem (f := (·.id)) he), (h.blk e he).2⟩, (fun _ h => nomatch h), h.nodup, h.pers⟩
def RunOk (C : Cx) (ps : List (World → Prop)) (n : Nat) : Prop := ∀ (w0 : Org) (T0 : List TF) (R : Ending → World → Prop) (G : Cfg) (lv : Nat) (s : S) (items : List It) (T : List TF) (J : List (Act → World → Prop)) (L : List (Cx → List Value → Prop)) (ρ : List Value) (a : Act) (W : World),
  (G.keep = 12 → w0.ms = []) → Ctx C w0 ps → VC C w0 ps T0 R L ρ (run C G n lv s items) → L.length = lv → Rel w0 ps T0 L ρ items T J → Inv w0 ps T ρ s a W → wpK C.P R items T J .normal a W
theorem keepH_at {nms : List Nat} {hp : List (Option Blk)} {n : Nat} {b : Blk} (h : (keepH nms hp)[n]? = some (some b)) : hp[n]? = some (some b) ∧ n ∈ nms := by
  simp only [keepH, List.getElem?_mapIdx, Option.map_eq_some_iff] at h
  obtain ⟨o, ho, h⟩ := h
  split at h
  · rename_i hc
    subst h
    exact ⟨ho, by simpa using hc⟩
  cases h
theorem wfS_wf {s : S} {m : Nat} (h : wfS s = true) (hm : s.sh.length = m) : s.Wf m := by
  subst hm
  simp only [wfS, Bool.and_eq_true] at h
  obtain ⟨⟨⟨⟨h1, h2⟩, h3⟩, h4⟩, h5⟩ := h
  refine ⟨fun v hv => List.all_eq_true.1 h1 _ hv, fun f hf v hv => List.all_eq_true.1 (List.all_eq_true.1 h2 f hf) _ hv, fun b hb => ?_, fun b hb => List.all_eq_true.1 h3 _ hb⟩
  have := List.all_eq_true.1 h5 _ hb
  simp only [Bool.and_eq_true] at this
  exact this.1
theorem wfS_live {s : S} (h : wfS s = true) {n : Nat} {b : Blk} (hn : s.hp[n]? = some (some b)) : lv s.ln n = true := by
  simp only [wfS, Bool.and_eq_true] at h
  have := List.all_eq_true.1 h.1.2 n (by simpa using (List.getElem?_eq_some_iff.1 hn).1)
  rw [hn] at this
  exact this
theorem sub_run {n : Nat} (hrun : RunOk C ps n) (hps : Ctx C w0 ps) {Gk : Cfg} (hgk : Gk.keep ≠ 12) {g : FuncId} {fn : Func} {body : Code} {args : List V} {v : V} {hp' : List (Option Blk)} {stk' : List (List (Option V))} (hfn : C.P.funcs[g]? = some fn) (hbody : fn.body = some body)
    (ht : run C Gk n 0 (inlS s g fn args) [.code body, .top fn] = .ret v hp' stk') (hlen : args.length ≤ fn.ntmps) (hwf : wfS (inlS s g fn args) = true) (hh : eqbH [] noSkip 0 (inlS s g fn args).hp hp' = true) (hk : eqbS (inlS s g fn args).stk stk' = true)
    (hg : Good ρ s) (hρ : ρ <+: ρ') {s' : S} (hA : InvA w0 ps T ρ' s' a W α) (hagree : ∀ n ∈ namesL args, s'.hp[n]? = s.hp[n]?) (hagreeL : ∀ n ∈ namesL args, s'.ln[n]? = s.ln[n]?) :
    Calls C.P g (denL ρ' α args).toArray W fun e W' => Below W.heap.size W W' ∧ ∃ α', e = .returned (v.den ρ α') ∧ (∀ m ∈ namesL args, (α' m).b = (α m).b ∧ (α' m).h = (α m).h) ∧ St ⟨W, (chs ρ α 0 (inlS s g fn args).hp).map (·.id), fun _ => False, fun _ => False⟩ (chs ρ α' 0 hp') [] ps W' := by
  have hwfI := wfS_wf (m := ρ.length) hwf hg.len
  have hkc : ∀ (m : Nat) (b : Blk), (inlS s g fn args).hp[m]? = some (some b) → b.k = .cells := fun m b hb => by
    simp only [wfS, Bool.and_eq_true] at hwf
    have := List.all_eq_true.1 hwf.2 _ (List.mem_of_getElem? hb)
    simp only [Bool.and_eq_true, decide_eq_true_eq] at this
    exact this.2
  have hargsw : wfL (inlS s g fn args).ln ρ.length args = true := wfL_of fun u hu => hwfI.fr u (List.mem_append_left _ (List.mem_map_of_mem (f := some) hu))
  have hargs : denL ρ' α args = denL ρ α args := denL_eq (hp := (inlS s g fn args).ln) (fun _ _ => rfl) hρ args hargsw
  rw [hargs]
  have hsub : List.Sublist (chs ρ α 0 (inlS s g fn args).hp) (chs ρ' α 0 s'.hp) := chs_sub fun m b hb => by
    obtain ⟨h1, h2⟩ := keepH_at hb
    refine ⟨b, by rw [hagree m h2]; exact h1, rfl, rfl, ?_⟩
    exact (denL_eq (hp := (inlS s g fn args).ln) (fun _ _ => rfl) hρ b.c (hwfI.hp b (List.mem_of_getElem? hb))).symm
  have hSt := hA.st.weak hsub (List.nil_sublist _) (fun _ h => h)
  refine calls_of_endR hfn hbody ?_
  have hI : Inv ⟨W, (chs ρ α 0 (inlS s g fn args).hp).map (·.id), fun _ => False, fun _ => False⟩ ps [⟨(((namesL args).map fun m => Value.pointer (some ⟨(α m).b, 0, none⟩)) ++ (namesL args).map fun m => (α m).h).toArray, [], none⟩] ρ (inlS s g fn args) { tmps := (denL ρ α args).toArray ++ Array.replicate (fn.ntmps - (denL ρ α args).toArray.size) undef, defers := [] } W := by
    refine ⟨α, ⟨nofun, nofun, rfl⟩, ⟨hg.len, hg.fit, hg.kn⟩, hwfI, ⟨by simp [inlS, denL_len], fun d u hd => ?_⟩, ⟨⟨by simp [inlS], fun d u hd => ?_⟩, trivial⟩, st_ps (St.reorg hSt) fun p hpm => ?_, fun m b hb => ?_, fun m b hb => ?_⟩
    · rw [Array.getElem?_append]
      simp only [List.size_toArray, denL_len]
      simp only [inlS] at hd
      by_cases hlt : d < args.length
      · rw [List.getElem?_append_left (by simpa using hlt), List.getElem?_map, List.getElem?_eq_getElem hlt] at hd
        simp only [Option.map_some, Option.some.injEq] at hd
        rw [if_pos hlt]
        simpa using denL_at (ρ := ρ) (α := α) (by rw [List.getElem?_eq_getElem hlt, hd])
      rw [List.getElem?_append_right (by simpa using hlt), List.getElem?_replicate] at hd
      rw [if_neg hlt, Array.getElem?_replicate]
      simp only [List.length_map] at hd
      split at hd
      · rename_i h9
        rw [if_pos h9]
        cases hd
        rfl
      cases hd
    · have e : (((namesL args).map fun m => Value.pointer (some ⟨(α m).b, 0, none⟩)) ++ (namesL args).map fun m => (α m).h) = ((namesL args).map (fun n => V.p n 0) ++ (namesL args).map (fun n => V.row n)).map (V.den ρ α) := by
        simp [V.den, Function.comp_def]
      rw [e]
      rw [show (namesL args).map (fun n => some (V.p n 0)) ++ (namesL args).map (fun n => some (V.row n)) = ((namesL args).map (fun n => V.p n 0) ++ (namesL args).map (fun n => V.row n)).map some by simp [Function.comp_def]] at hd
      rw [List.getElem?_map, Option.map_eq_some_iff] at hd
      obtain ⟨u', hu', hd⟩ := hd
      cases hd
      rw [List.getElem?_toArray, List.getElem?_map, hu']
      rfl
    · rcases List.mem_append.1 hpm with hpm | hpm
      · obtain ⟨m, b, h1, h2⟩ := exs_mem.1 hpm
        rw [Blk.own_ex (by simp [Blk.own, hkc m b h1])] at h2
        cases h2
      exact List.mem_append.2 (.inr hpm)
    · exact ⟨wfS_live hwf hb, by simp only [Blk.rowOk, hkc m b hb]⟩
    obtain ⟨h1, h2⟩ := keepH_at hb
    have h3 := hA.lens m b (by rw [hagreeL m h2]; exact h1)
    have h4 := hwfI.ln b (List.mem_of_getElem? hb)
    unfold Blk.lenOk Blk.xs at h3 ⊢
    rw [← denL_eq (hp := (inlS s g fn args).ln) (α := α) (α' := α) (fun _ _ => rfl) hρ b.c h4]
    exact h3
  have := hrun ⟨W, (chs ρ α 0 (inlS s g fn args).hp).map (·.id), fun _ => False, fun _ => False⟩ [⟨(((namesL args).map fun m => Value.pointer (some ⟨(α m).b, 0, none⟩)) ++ (namesL args).map fun m => (α m).h).toArray, [], none⟩] (fun e W' => Below W.heap.size W W' ∧ ∃ α', e = .returned (v.den ρ α') ∧ (∀ m ∈ namesL args, (α' m).b = (α m).b ∧ (α' m).h = (α m).h) ∧ St ⟨W, (chs ρ α 0 (inlS s g fn args).hp).map (·.id), fun _ => False, fun _ => False⟩ (chs ρ α' 0 hp') [] ps W') Gk 0 (inlS s g fn args) [.code body, .top fn] _ [] [] ρ _ W (fun h => absurd h hgk) ⟨hps.1, fun _ h => h.elim, fun _ h => h.elim, Nat.le_trans hps.2.2.2.1 hA.st.old.size, hps.2.2.2.2⟩ ?_ rfl rfl hI
  · exact this
  rw [ht]
  simp only [VC]
  intro α' W' hF _ hS
  have hF2 := StkLe.fms (eqbS_le hk) hF
  have hα : ∀ m ∈ namesL args, (α' m).b = (α m).b ∧ (α' m).h = (α m).h := fun m hm => by
    obtain ⟨j, hj⟩ := List.mem_iff_getElem?.1 hm
    have hjl := (List.getElem?_eq_some_iff.1 hj).1
    have h1 := hF2.1.2 j (.p m 0) (by
      have := (List.getElem?_eq_some_iff.1 hj).2
      simp [inlS, hjl, List.getElem?_append_left, this])
    have h2 := hF2.1.2 ((namesL args).length + j) (.row m) (by simp [inlS, hj, List.getElem?_append_right])
    have hm2 : (namesL args)[j] = m := by
      have := (List.getElem?_eq_some_iff.1 hj).2
      exact this
    simp [hj, hjl, V.den, List.getElem?_append_left, List.getElem?_append_right] at h1 h2
    rw [hm2] at h1 h2
    exact ⟨h1.symm, h2.symm⟩
  refine ⟨⟨hS.old.os, hS.old.tape, hS.old.output, hS.old.size, fun b hb => ?_⟩, α', rfl, hα, hS.weak (.refl _) (.refl _) fun p h => List.mem_append.2 (.inr h)⟩
  by_cases hm : b ∈ (chs ρ α 0 (inlS s g fn args).hp).map (·.id)
  · obtain ⟨e, he, rfl⟩ := List.mem_map.1 hm
    obtain ⟨m, b0, h1, hch⟩ := chs_inv he
    rw [Nat.zero_add] at hch
    have hk0 := hkc m b0 h1
    obtain ⟨b', h2, h3, hk', h4, h5⟩ := eqbH_le hh m b0 h1 (by simp)
    have hbc : b'.c = b0.c := by
      apply List.ext_getElem?
      intro j
      cases hq : b0.c[j]? with
      | some u => exact h5 j u rfl hq
      | none => rw [List.getElem?_eq_none_iff] at hq ⊢; omega
    have h8 : denL ρ α' b'.c = denL ρ α b0.c := by
      rw [hbc]
      exact denL_eq2 (hp := (inlS s g fn args).ln) (fun n hn => by
        obtain ⟨b, hb⟩ := lv_iff.1 hn
        exact hα n (keepH_at hb).2) (List.prefix_refl _) b0.c (hwfI.hp b0 (List.mem_of_getElem? h1))
    have hch' : b'.ch ρ α' (0 + m) = some e := by
      rw [← hch]
      simp only [Blk.ch, hk', hk0, Nat.zero_add, h8, h3, (hα m (keepH_at h1).2).1]
    have h6 := hS.atO (chs_mem (k := 0) h2 hch')
    have h7 := hSt.atO (chs_mem (k := 0) h1 (by rw [Nat.zero_add]; exact hch))
    rw [h6]
    exact h7.symm
  exact hS.old.block b hb hm
theorem sub_calls {n : Nat} (hrun : RunOk C ps n) (hps : Ctx C w0 ps) {Gk : Cfg} (hgk : Gk.keep ≠ 12) {g : FuncId} {fn : Func} {body : Code} {args : List V} {v : V} {hp' : List (Option Blk)} {stk' : List (List (Option V))} (hfn : C.P.funcs[g]? = some fn) (hbody : fn.body = some body)
    (ht : run C Gk n 0 (inlS s g fn args) [.code body, .top fn] = .ret v hp' stk') (hlen : args.length ≤ fn.ntmps) (hwf : wfS (inlS s g fn args) = true) (hh : eqbH [] noSkip 0 (inlS s g fn args).hp hp' = true) (hk : eqbS (inlS s g fn args).stk stk' = true) (hv : v.wf (inlS s g fn args).ln s.sh.length = true)
    (hg : Good ρ s) (hρ : ρ <+: ρ') {s' : S} (hA : InvA w0 ps T ρ' s' a W α) (hagree : ∀ n ∈ namesL args, s'.hp[n]? = s.hp[n]?) (hagreeL : ∀ n ∈ namesL args, s'.ln[n]? = s.ln[n]?) :
    Calls C.P g (denL ρ' α args).toArray W fun e W' => e = .returned (v.den ρ' α) ∧ Below W.heap.size W W' := by
  refine (sub_run hrun hps hgk hfn hbody ht hlen hwf hh hk hg hρ hA hagree hagreeL).mono fun e W' h => ?_
  obtain ⟨hb, α', rfl, hα, _⟩ := h
  refine ⟨?_, hb⟩
  have hα2 : ∀ n, lv (inlS s g fn args).ln n = true → (α' n).b = (α n).b ∧ (α' n).h = (α n).h := fun n hn => by
    obtain ⟨b, hb⟩ := lv_iff.1 hn
    exact hα n (keepH_at hb).2
  have h1 := V.den_eq2 (hp := (inlS s g fn args).ln) hα2 (List.prefix_refl ρ) v (by rw [← hg.len]; exact hv)
  have h2 := V.den_eq (hp := (inlS s g fn args).ln) (α := α) (α' := α) (fun _ _ => rfl) hρ v (by rw [← hg.len]; exact hv)
  rw [h1, h2]
theorem hist_inl {n : Nat} (hrun : RunOk C ps n) (hps : Ctx C w0 ps) {Gk : Cfg} (hgk : Gk.keep ≠ 12) {all : Array Oper} {nm : Nat} {o : Oper} {c : Call} {f : Operand} {g : FuncId} {fn : Func} {body : Code} {args cap : List V} {v : V} {hp' : List (Option Blk)} {stk' : List (List (Option V))} (hg : Good ρ s) (hwant : ∀ (s' : S) ρf a' W', s'.kn = s.kn → AgreeAt (slotsOf all o) [] [] s' s → Inv w0 ps T ρf s' a' W' → Region.wanted o (yielded all a'.tmps) = true) (hvs : o.op.operands.toList.mapM s.ev = some (.f (.func g) [] cap :: args))
    (hop : o.op = .call c) (hcal : c.callee = .value f) (hen : enters C.P g = true) (hfn : C.P.funcs[g]? = some fn) (hbody : fn.body = some body)
    (ht : run C Gk n 0 (inlS s g fn (args ++ cap)) [.code body, .top fn] = .ret v hp' stk') (hlen : (args ++ cap).length ≤ fn.ntmps) (hwf : wfS (inlS s g fn (args ++ cap)) = true) (hh : eqbH [] noSkip 0 (inlS s g fn (args ++ cap)).hp hp' = true) (hk : eqbS (inlS s g fn (args ++ cap)).stk stk' = true) (hv : v.wf (inlS s g fn (args ++ cap)).ln s.sh.length = true) :
    Hist C rr w0 ps T ρ Q all nm o ⟨v, none, none, slotsOf all o, namesL (args ++ cap), namesL (args ++ cap)⟩ s s := by
  intro ρf shf knf hρ hsh s' a' W' K hsame hag hI hK
  obtain ⟨α, hA⟩ := hI
  have hkn := kn_mono hρ hg.kn
  have hA' := hA.wk hkn
  have hfr : ∀ x ∈ slotsOf all o, s'.fr[x]? = s.fr[x]? := hag.fr
  have hhp : ∀ m ∈ nm :: namesL (args ++ cap), s'.hp[m]? = s.hp[m]? := hag.hp
  have hln : ∀ m ∈ nm :: namesL (args ++ cap), s'.ln[m]? = s.ln[m]? := hag.ln
  rw [if_pos (hwant (s'.wk s'.sh s.kn) ρf a' W' rfl ⟨hfr, (fun _ h => nomatch h), (fun _ h => nomatch h)⟩ ⟨α, hA'⟩)]
  have he := mapM_den hA'.good hA'.fm (ev_agree (s := s) (s' := s'.wk s'.sh s.kn) rfl (fun x hx => hfr x (by simp [slotsOf, hx])) hvs)
  rw [hop] at he
  obtain ⟨cal, ar, at'⟩ := c
  simp only at hcal
  subst hcal
  simp only [Op.operands, Call.operands, denL, V.den] at he
  simp at he
  obtain ⟨h7, h8⟩ := he
  have hc := sub_calls hrun hps hgk hfn hbody ht hlen hwf hh hk hv hg hρ hA (fun m hm => hhp m (List.mem_cons_of_mem _ hm)) fun m hm => hln m (List.mem_cons_of_mem _ hm)
  refine operIn_of_wp (by rw [hop]; intro c h; cases h) ?_
  refine wp_callF hop h7 (vs := (denL ρf α (args ++ cap)).toArray) ?_ (enters_run hen _ _) (R := fun u W2 => u = v.den ρf α ∧ Below W'.heap.size W' W2) (hc.mono fun e W2 h => ⟨_, h.1, rfl, h.2⟩) ?_
  · exact Array.ext' (by simp [denL_app, h8])
  rintro u W2 ⟨rfl, hb⟩
  refine hK _ _ ⟨α, (hA.step hb).put_any o.dst ?_ rfl⟩
  refine V.wf_mono (hp := (inlS s g fn (args ++ cap)).ln) (fun m hm => ?_) (?_ : s.sh.length ≤ _) v hv
  · obtain ⟨b, hb⟩ := lv_iff.1 hm
    obtain ⟨h1, h2⟩ := keepH_at hb
    exact lv_iff.2 ⟨b, by rw [hln m (List.mem_cons_of_mem _ h2)]; exact h1⟩
  rw [hg.len]; exact List.IsPrefix.length_le hρ
theorem fin_new2 {v : V} {b : Blk} {nm : Nat} {o : Oper} {K : Act → World → Prop} (hI : InvA w0 ps T ρ s a W α) (hnm : freeIn s nm) (hk : b.k = .cells) (hw : effWf s nm v (some b) none = true) (hK : ∀ a' W', Inv w0 ps T ρ (s.eff nm o.dst v (some b) none) a' W' → K a' W')
    {k : Nat} {W' : World} (hS : St w0 (⟨k, (denL ρ α b.c).toArray, b.t⟩ :: chs ρ α 0 s.hp) (osA a s T) (exs w0 ρ α 0 s.hp ++ ps) W') {u : Value} (hu : ∀ α', (α' nm).b = k → (∀ n, lv s.ln n = true → α' n = α n) → u = v.den ρ α') : K (a.put o.dst u) W' := by
  simp only [effWf, effH, Bool.and_eq_true, Bool.and_true, hI.good.len] at hw
  obtain ⟨α', h1, h2, h3⟩ := hI.new hnm hk hw.2 hS
  exact hK _ _ ⟨α', h3.put_any o.dst hw.1 (hu α' h1 h2)⟩
theorem hist_new {n : Nat} (hrun : RunOk C ps n) (hps : Ctx C w0 ps) {Gk : Cfg} (hgk : Gk.keep ≠ 12) {all : Array Oper} {nm : Nat} {o : Oper} {c : Call} {f : Operand} {g : FuncId} {fn : Func} {body : Code} {args cap : List V} {v : V} {hp' : List (Option Blk)} {stk' : List (List (Option V))} {r : Nat} {b : Blk} (hg : Good ρ s) (hwant : ∀ (s' : S) ρf a' W', s'.kn = s.kn → AgreeAt (slotsOf all o) [] [] s' s → Inv w0 ps T ρf s' a' W' → Region.wanted o (yielded all a'.tmps) = true) (hvs : o.op.operands.toList.mapM s.ev = some (.f (.func g) [] cap :: args))
    (hop : o.op = .call c) (hcal : c.callee = .value f) (hen : enters C.P g = true) (hfn : C.P.funcs[g]? = some fn) (hbody : fn.body = some body)
    (ht : run C Gk n 0 (inlS s g fn (args ++ cap)) [.code body, .top fn] = .ret v hp' stk') (hlen : (args ++ cap).length ≤ fn.ntmps) (hwf : wfS (inlS s g fn (args ++ cap)) = true) (hh : eqbH [] noSkip 0 (inlS s g fn (args ++ cap)).hp hp' = true) (hk : eqbS (inlS s g fn (args ++ cap)).stk stk' = true)
    (had : adoptOf (inlS s g fn (args ++ cap)) v hp' = some (r, b)) (hro : v.renOk (namesL (args ++ cap)) r = true) (hwb : wfL (inlS s g fn (args ++ cap)).ln s.sh.length b.c = true) (hw : effWf s nm (v.ren r nm) (some b) none = true) (hnm : freeIn s nm) :
    Hist C rr w0 ps T ρ Q all nm o ⟨v.ren r nm, some b, none, slotsOf all o, namesL (args ++ cap), namesL (args ++ cap) ++ effNames nm (v.ren r nm) (some b) none⟩ s s := by
  intro ρf shf knf hρ hsh s' a' W' K hsame hag hI hK
  obtain ⟨α, hA⟩ := hI
  have hkn := kn_mono hρ hg.kn
  have hA' := hA.wk hkn
  have hfr : ∀ x ∈ slotsOf all o, s'.fr[x]? = s.fr[x]? := hag.fr
  have hhp : ∀ m ∈ nm :: namesL (args ++ cap), s'.hp[m]? = s.hp[m]? := hag.hp
  have hln : ∀ m ∈ nm :: (namesL (args ++ cap) ++ effNames nm (v.ren r nm) (some b) none), s'.ln[m]? = s.ln[m]? := hag.ln
  rw [if_pos (hwant (s'.wk s'.sh s.kn) ρf a' W' rfl ⟨hfr, (fun _ h => nomatch h), (fun _ h => nomatch h)⟩ ⟨α, hA'⟩)]
  have he := mapM_den hA'.good hA'.fm (ev_agree (s := s) (s' := s'.wk s'.sh s.kn) rfl (fun x hx => hfr x (by simp [slotsOf, hx])) hvs)
  rw [hop] at he
  obtain ⟨cal, ar, at'⟩ := c
  simp only at hcal
  subst hcal
  simp only [Op.operands, Call.operands, denL, V.den] at he
  simp at he
  obtain ⟨h7, h8⟩ := he
  have hc := sub_run hrun hps hgk hfn hbody ht hlen hwf hh hk hg hρ hA (fun m hm => hhp m (List.mem_cons_of_mem _ hm)) fun m hm => hln m (List.mem_cons_of_mem _ (List.mem_append_left _ hm))
  have hwfI := wfS_wf (m := ρ.length) hwf hg.len
  obtain ⟨r', hr1, hr2⟩ := Option.bind_eq_some_iff.1 had
  have hrn : (inlS s g fn (args ++ cap)).hp.length ≤ r' := by
    have := List.find?_some hr1
    simpa using this
  obtain ⟨b', hb1, hb2⟩ := Option.map_eq_some_iff.1 hr2
  simp only [Prod.mk.injEq] at hb2
  obtain ⟨rfl, rfl⟩ := hb2
  obtain ⟨b2, hb3, hb4⟩ := Option.bind_eq_some_iff.1 hb1
  have hbk : b2 = b' ∧ b'.k = .cells := by
    unfold cellsB at hb4
    split at hb4
    · rename_i hkk
      obtain rfl : b2 = b' := by simpa using hb4
      exact ⟨rfl, hkk⟩
    cases hb4
  obtain ⟨rfl, hbk⟩ := hbk
  have hpr : hp'[r']? = some (some b2) := by
    cases hq : hp'[r']? with
    | none => simp [hq] at hb3
    | some x => simp [hq] at hb3; rw [hb3]
  have hlive : ∀ m ∈ namesL (args ++ cap), lv s.ln m = true := fun m hm => by
    have h1 := hwfI.stk _ (List.mem_singleton.2 rfl) (.p m 0) (by simp; exact hm)
    obtain ⟨b9, hb9⟩ := lv_iff.1 (show lv (inlS s g fn (args ++ cap)).ln m = true by simpa [V.wf] using h1)
    exact lv_iff.2 ⟨b9, (keepH_at hb9).1⟩
  refine operIn_of_wp (by rw [hop]; intro c h; cases h) ?_
  refine wp_callF hop h7 (vs := (denL ρf α (args ++ cap)).toArray) ?_ (enters_run hen _ _) (R := fun u W2 => Below W'.heap.size W' W2 ∧ ∃ α', u = v.den ρ α' ∧ (∀ m ∈ namesL (args ++ cap), (α' m).b = (α m).b ∧ (α' m).h = (α m).h) ∧ St ⟨W', (chs ρ α 0 (inlS s g fn (args ++ cap)).hp).map (·.id), fun _ => False, fun _ => False⟩ (chs ρ α' 0 hp') [] ps W2) (hc.mono fun e W2 h => by
    obtain ⟨h1, α', h2, h3⟩ := h
    exact ⟨_, h2, h1, α', rfl, h3⟩) ?_
  · exact Array.ext' (by simp [denL_app, h8])
  rintro u W2 ⟨hb, α', rfl, hα, hS⟩
  have hα2 : ∀ n, lv (inlS s g fn (args ++ cap)).ln n = true → (α' n).b = (α n).b ∧ (α' n).h = (α n).h := fun n hn => by
    obtain ⟨b, hb⟩ := lv_iff.1 hn
    exact hα n (keepH_at hb).2
  have hch : b2.ch ρ α' (0 + r') = some ⟨(α' r').b, (denL ρ α' b2.c).toArray, b2.t⟩ := by simp only [Blk.ch, hbk, Nat.zero_add]
  have hm := chs_mem (k := 0) hpr hch
  have hden : denL ρ α' b2.c = denL ρf α b2.c := by
    rw [hg.len] at hwb
    rw [denL_eq2 (hp := (inlS s g fn (args ++ cap)).ln) hα2 (List.prefix_refl ρ) b2.c hwb]
    exact (denL_eq (hp := (inlS s g fn (args ++ cap)).ln) (α := α) (α' := α) (fun _ _ => rfl) hρ b2.c hwb).symm
  have hnew : W'.heap.size ≤ (α' r').b := by
    rcases hS.ge_ hm with h | h
    · exact h
    exfalso
    obtain ⟨e, he, hid⟩ := List.mem_map.1 h
    obtain ⟨m, b0, h1, hch0⟩ := chs_inv he
    rw [Nat.zero_add] at hch0
    have hk0 : b0.k = .cells := by
      simp only [wfS, Bool.and_eq_true] at hwf
      have := List.all_eq_true.1 hwf.2 _ (List.mem_of_getElem? h1)
      simp only [Bool.and_eq_true, decide_eq_true_eq] at this
      exact this.2
    obtain ⟨b1, h2, h3, hk', h4, h5⟩ := eqbH_le hh m b0 h1 (by simp)
    have hmr : m ≠ r' := by
      have := (List.getElem?_eq_some_iff.1 h1).1
      omega
    have hch1 : b1.ch ρ α' (0 + m) = some ⟨(α' m).b, (denL ρ α' b1.c).toArray, b1.t⟩ := by simp only [Blk.ch, hk', hk0, Nat.zero_add]
    have hnd : ((chs ρ α' 0 hp').map (·.id)).Nodup := by
      have := hS.nodup
      unfold muts at this
      exact (List.nodup_append.1 this).1
    have := chs_ne hnd hmr h2 (by rw [← Nat.zero_add m]; exact hch1) hpr (by rw [← Nat.zero_add r']; exact hch)
    apply this
    show (α' m).b = (α' r').b
    rw [(hα m (keepH_at h1).2).1, ← hid]
    simp only [Blk.ch, hk0] at hch0
    cases hch0
    rfl
  have hat := hS.at_ hm
  rw [hden] at hat
  have hmade := hA'.st.made hb hat hnew
  have hw' : effWf (s'.wk s'.sh s.kn) nm (v.ren r' nm) (some b2) none = true :=
    effWf_agree (s := s) (s' := s'.wk s'.sh s.kn) hsame.lnl (hln nm (List.mem_cons_self ..)) (fun n hn => hln n (by simp [hn])) (List.IsPrefix.length_le (by rw [hsame.sh]; exact hsh)) hw
  refine fin_new2 (s := s'.wk s'.sh s.kn) hA' ⟨(hhp nm (List.mem_cons_self ..)).trans hnm.1, (hln nm (List.mem_cons_self ..)).trans hnm.2⟩ hbk hw' (fun a2 W3 h2 => hK a2 W3 (unwk hA.good.kn h2)) hmade fun α2 q1 q2 => ?_
  have hw1 : (v.ren r' nm).wf (effH s nm (some b2)) ρ.length = true := by
    simp only [effWf, Bool.and_eq_true] at hw
    rw [← hg.len]; exact hw.1.1
  rw [V.den_eq (hp := effH s nm (some b2)) (α := α2) (α' := α2) (fun _ _ => rfl) hρ _ hw1]
  refine (ren_den q1 (fun m hm => ?_) v hro).symm
  rw [q2 m (by
    have h1 := hlive m hm
    obtain ⟨b9, hb9⟩ := lv_iff.1 h1
    exact lv_iff.2 ⟨b9, by show s'.ln[m]? = _; rw [hln m (List.mem_cons_of_mem _ (List.mem_append_left _ hm))]; exact hb9⟩)]
  exact (hα m hm).1.symm
end
end SX
namespace SX
section
variable {C : Cx} {w0 : Org} {ps : List (World → Prop)} {T T0 : List TF} {R : Ending → World → Prop} {ρ ρ' ρ0 : List Value} {s s0 : S} {a : Act} {W : World} {α : Nat → AV} {Q : Exit → Act → World → Prop} {L : List (Cx → List Value → Prop)}
theorem InvA.grow (h : InvA w0 ps T ρ0 s0 a W α) (hρ : ρ0 <+: ρ) {sh : List Sh} {kn : List (Nat × List Nat × Value)} (hg : Good ρ (s0.wk sh kn)) : InvA w0 ps T ρ (s0.wk sh kn) a W α := by
  have ha : ∀ n, lv s0.ln n = true → α n = α n := fun _ _ => rfl
  have hl := List.IsPrefix.length_le hρ
  refine ⟨h.defers, hg, ⟨h.wf.fr.mono (fun _ h => h) hl, fun f hf => (h.wf.stk f hf).mono (fun _ h => h) hl, h.wf.hp.mono (fun _ h => h) hl, h.wf.ln.mono (fun _ h => h) hl⟩, h.fm.to ha hρ h.wf.fr, h.fms.to ha hρ h.wf.stk, ?_, rows_to ha hρ h.wf.hp h.rows, lens_to ha hρ h.wf.ln h.lens⟩
  show St w0 (chs ρ α 0 s0.hp) (osA a s0 T) (exs w0 ρ α 0 s0.hp ++ ps) W
  rw [chs_all ha hρ h.wf.hp h.live]
  exact st_ps h.st (app_sub (exs_all ha hρ h.wf.hp h.live))
theorem wanted_of {o : Oper} {all : Array Oper} {g d : Nat} {want b : Bool} (hI : InvA w0 ps T ρ s a W α) (hg : o.guard = some (g, want)) (hd : (all[g]?).bind (·.dst) = some d) (hl : lookFr s d = some (.k (.bool b))) : Region.wanted o (yielded all a.tmps) = (b == want) := by
  have := look_den hI.good hI.fm hl
  simp [Region.wanted, hg, yielded, hd, this, V.den]
theorem wanted_no {o : Oper} {all : Array Oper} {g d : Nat} {want : Bool} {u : Array Value} (hI : InvA w0 ps T ρ s a W α) (hg : o.guard = some (g, want)) (hd : (all[g]?).bind (·.dst) = some d) (hl : lookFr s d = some (.k (.tuple u))) : Region.wanted o (yielded all a.tmps) = false := by
  have := look_den hI.good hI.fm hl
  simp [Region.wanted, hg, yielded, hd, this, V.den]
theorem look_agree {s s' : S} {d : Nat} (hk : s'.kn = s.kn) (hf : s'.fr[d]? = s.fr[d]?) : lookFr s' d = lookFr s d := by unfold lookFr; rw [hk, hf]
theorem Good.br (hg : Good ρ s) {i : Nat} {p : List Nat} {v : Value} (hi : i < s.sh.length) (hv : p.foldl comp (ρ.getD i undef) = v) : Good ρ (s.dec i p v) :=
  ⟨hg.len, hg.fit, fun e he => by
    rcases List.mem_cons.1 he with rfl | he
    · exact ⟨by rw [← hg.len]; exact hi, hv⟩
    exact hg.kn e he⟩
theorem free_at {s : S} {n : Nat} (h : freeAt s n = true) : freeIn s n := by
  unfold freeAt at h
  split at h
  · exact ⟨by assumption, by assumption⟩
  cases h
def planGo (C : Cx) (inl : FuncId → Bool) (sub : S → List It → Tree) (all : Array Oper) (base : Nat) (cont : S → Tree) (tail : S → List Oper → Tree) (n : Nat) (s : S) (ds : List Done) (o : Oper) (rest : List Oper) : Tree :=
  match o.op.operands.toList.mapM s.ev with
        | none => .bad 32 [o.op]
        | some vs => match planV C s.sh (base + ds.length) o.op vs (s.see o.op vs) with
          | .ef v new wr => if effWf s (base + ds.length) v new wr && freeAt s (base + ds.length) then planRun C inl sub all base cont tail n (s.eff (base + ds.length) o.dst v new wr) (ds ++ [⟨v, new, wr, slotsOf all o, cNames s.hp o.op vs, shNames o.op vs ++ effNames (base + ds.length) v new wr⟩]) rest else .bad 33 [o.op]
          | .df q args sh mk new wr => if wfL s.ln s.sh.length args && q.wf s.ln s.sh.length && effWf (s.ext sh) (base + ds.length) (resV s.sh.length sh mk) new wr && freeAt s (base + ds.length) then .df q args sh (planRun C inl sub all base cont tail n ((s.ext sh).eff (base + ds.length) o.dst (resV s.sh.length sh mk) new wr) (ds ++ [⟨resV s.sh.length sh mk, new, wr, slotsOf all o, cNames s.hp o.op vs, shNames o.op vs ++ effNames (base + ds.length) (resV s.sh.length sh mk) new wr⟩]) rest) else .bad 34 [o.op]
          | .br i p => if i < s.sh.length then .br i p (planRun C inl sub all base cont tail n (s.dec i p (.bool true)) ds (o :: rest)) (planRun C inl sub all base cont tail n (s.dec i p (.bool false)) ds (o :: rest)) else .bad 35 [o.op]
          | .sp i p m => if i < s.sh.length then .sp i p ((List.range m).map fun (j : Nat) => planRun C inl sub all base cont tail n (s.dec i p (.int .i64 (j : Int))) ds (o :: rest)) else .bad 36 [o.op]
          | .no => if tlCall C.tl vs && tailOk base all.toList ds then tail s (o :: rest) else match o.op, vs with
            | .call c, .f (.func g) [] cap :: args => match c.callee, C.P.funcs[g]?, enters C.P g && inl g with
              | .value _, some fn, true => match fn.body with
                | some body => if (args ++ cap).length ≤ fn.ntmps && wfS (inlS s g fn (args ++ cap)) then
                    match sub (inlS s g fn (args ++ cap)) [.code body, .top fn] with
                    | .ret v hp' stk' => if eqbH [] noSkip 0 (inlS s g fn (args ++ cap)).hp hp' && eqbS (inlS s g fn (args ++ cap)).stk stk' && v.wf (inlS s g fn (args ++ cap)).ln s.sh.length then planRun C inl sub all base cont tail n (s.put o.dst v) (ds ++ [⟨v, none, none, slotsOf all o, namesL (args ++ cap), namesL (args ++ cap)⟩]) rest else match adoptOf (inlS s g fn (args ++ cap)) v hp' with
                      | some (r, b) => if eqbH [] noSkip 0 (inlS s g fn (args ++ cap)).hp hp' && eqbS (inlS s g fn (args ++ cap)).stk stk' && v.renOk (namesL (args ++ cap)) r && wfL (inlS s g fn (args ++ cap)).ln s.sh.length b.c && effWf s (base + ds.length) (v.ren r (base + ds.length)) (some b) none && freeAt s (base + ds.length) then planRun C inl sub all base cont tail n (s.eff (base + ds.length) o.dst (v.ren r (base + ds.length)) (some b) none) (ds ++ [⟨v.ren r (base + ds.length), some b, none, slotsOf all o, namesL (args ++ cap), namesL (args ++ cap) ++ effNames (base + ds.length) (v.ren r (base + ds.length)) (some b) none⟩]) rest else .bad 47 [o.op]
                      | none => .bad 42 [o.op]
                    | t => match t with
                      | .bad n l => .bad (n + 100) l
                      | _ => .bad 43 [o.op]
                  else .bad 44 [o.op]
                | none => .bad 45 [o.op]
              | _, _, _ => .bad 37 [o.op]
            | _, _ => .bad 46 [o.op]
theorem plan_ok {rr : Option Nat} {m : Nat} {Gk : Cfg} {inl : FuncId → Bool} {all : Array Oper} {base id : Nat} {cont : S → Tree} {tail : S → List Oper → Tree} (hC : C.Ok) (hps : Ctx C w0 ps) (hrun : RunOk C ps m) (hgk : Gk.keep ≠ 12) (hmix : C.P.follows .mixedOrders = true) (hI0 : Inv w0 ps T ρ0 s0 a W)
    (hcont : ∀ s' ρ', VC C w0 ps T0 R L ρ' (cont s') → ρ0 <+: ρ' → ∀ a' W', Inv w0 ps T ρ' s' a' W' → Q .normal a' W')
    (htail : ∀ s' ρ' l, VC C w0 ps T0 R L ρ' (tail s' l) → ρ0 <+: ρ' → (∀ c a' W', ¬ Q (.panic c) a' W') ∧ ∀ a' W', Inv w0 ps T ρ' s' a' W' → wpLR rr C.P all Q l a' W') :
    ∀ (n : Nat) (s : S) (ds : List Done) (rest pre : List Oper) (ρ : List Value), all.toList = pre ++ rest → pre.length = ds.length → ρ0 <+: ρ → VC C w0 ps T0 R L ρ (planRun C inl (fun s' it => run C Gk m 0 s' it) all base cont tail n s ds rest) → Good ρ s →
      s = (appS base (fun _ => true) 0 (pre.zip ds) s0).wk s.sh s.kn →
      (∀ (i : Nat) (o : Oper) (d : Done), (pre.zip ds)[i]? = some (o, d) → ∀ ρf shf knf, ρ <+: ρf → s.sh <+: shf → StepOk C rr w0 ps T ρf Q all (base + i) o d ((appS base (fun _ => true) 0 ((pre.zip ds).take i) s0).wk shf knf)) →
      wpR rr C.P (Code.region id all true) Q a W := by
  intro n
  induction n with
  | zero => intro s ds rest pre ρ _ _ _ hv; simp [planRun, VC] at hv
  | succ n ih =>
    intro s ds rest pre ρ hall hlen hρ hv hg hs hh
    unfold planRun at hv
    dsimp only at hv
    split at hv
    · -- the end
      split at hv
      · rename_i hord
        have hpre : all = pre.toArray := by rw [← Array.toArray_toList (xs := all), hall]; simp
        subst hpre
        obtain ⟨α, hA⟩ := hI0
        have hgs : Good ρ (s0.wk s.sh s.kn) := ⟨hg.len, hg.fit, hg.kn⟩
        have hA' := hA.grow hρ hgs
        refine draw_region (base := base) (ds := ds) (s0 := s0.wk s.sh s.kn) hmix (by simpa using hord) (fun i o d hd => ?_) ⟨α, hA'⟩ fun a' W' h => ?_
        · have := hh i o d hd ρ s.sh s.kn (List.prefix_refl _) (List.prefix_refl _)
          have e2 := app_take (base := base) (pre.zip ds) 0 i (s0.wk s.sh s.kn)
          simp only [Nat.zero_add] at e2
          rw [e2, app_wk]
          exact this
        refine hcont s ρ hv hρ a' W' ?_
        rw [app_wk, ← hs] at h
        exact h
      simp [VC] at hv
    rename_i o rest
    have hnm : base + ds.length = base + (0 + (pre.zip ds).length) := by simp [hlen]
    have next : ∀ (d : Done) (s1 sx : S) (ρ1 : List Value), s1 = (s.eff (base + ds.length) o.dst d.v d.new d.wr).wk s1.sh s1.kn → ρ <+: ρ1 → s.sh <+: s1.sh → sx.sh = s1.sh → Good ρ1 s1 → Hist C rr w0 ps T ρ1 Q all (base + ds.length) o d sx s →
        VC C w0 ps T0 R L ρ1 (planRun C inl (fun s' it => run C Gk m 0 s' it) all base cont tail n s1 (ds ++ [d]) rest) → wpR rr C.P (Code.region id all true) Q a W := by
      intro d s1 sx ρ1 hs1 hρ1 hsh1 hsx hg1 hH hv1
      have hz : (pre ++ [o]).zip (ds ++ [d]) = pre.zip ds ++ [(o, d)] := by rw [List.zip_append hlen]; rfl
      refine ih s1 (ds ++ [d]) rest (pre ++ [o]) ρ1 (by rw [hall]; simp) (by simp [hlen]) (hρ.trans hρ1) hv1 hg1 ?_ ?_
      · rw [hz, app_split]
        simp only [appS, if_true]
        rw [← hnm]
        have e2 : ((appS base (fun _ => true) 0 (pre.zip ds) s0).eff (base + ds.length) o.dst d.v d.new d.wr).wk s1.sh s1.kn = (s.eff (base + ds.length) o.dst d.v d.new d.wr).wk s1.sh s1.kn := by
          rw [hs, eff_wk]; rfl
        rw [e2]
        exact hs1
      intro i o' d' hi ρf shf knf hρf hshf
      rw [hz] at hi ⊢
      by_cases hlt : i < (pre.zip ds).length
      · rw [List.getElem?_append_left hlt] at hi
        rw [List.take_append_of_le_length (by omega)]
        exact hh i o' d' hi ρf shf knf (hρ1.trans hρf) (hsh1.trans hshf)
      have hi0 : i = (pre.zip ds).length := by
        have := (List.getElem?_eq_some_iff.1 hi).1
        simp only [List.length_append, List.length_singleton] at this
        omega
      subst hi0
      rw [List.getElem?_append_right (by omega), Nat.sub_self] at hi
      obtain ⟨rfl, rfl⟩ : o = o' ∧ d = d' := by simpa using hi
      rw [List.take_left' rfl]
      have := hH ρf shf knf hρf (by rw [hsx]; exact hshf)
      rw [hs] at this
      have hl : (pre.zip ds).length = ds.length := by simp [hlen]
      rw [hl]
      exact this
    have again : ∀ (i : Nat) (p : List Nat) (v : Value), i < s.sh.length → p.foldl comp (ρ.getD i undef) = v → VC C w0 ps T0 R L ρ (planRun C inl (fun s' it => run C Gk m 0 s' it) all base cont tail n (s.dec i p v) ds (o :: rest)) → wpR rr C.P (Code.region id all true) Q a W := by
      intro i p v hi hu hv1
      refine ih (s.dec i p v) ds (o :: rest) pre ρ hall hlen hρ hv1 (hg.br hi hu) ?_ hh
      have : s.dec i p v = s.wk s.sh ((i, p, v) :: s.kn) := rfl
      rw [this]
      conv => lhs; rw [hs]
      rfl
    have put_eff : ∀ v, s.put o.dst v = (s.eff (base + ds.length) o.dst v none none).wk s.sh s.kn := fun v => by cases o.dst <;> rfl
    have skip : (∀ (s' : S) ρf a' W', s'.kn = s.kn → AgreeAt (slotsOf all o) [] [] s' s → Inv w0 ps T ρf s' a' W' → Region.wanted o (yielded all a'.tmps) = false) → VC C w0 ps T0 R L ρ (planRun C inl (fun s' it => run C Gk m 0 s' it) all base cont tail n (s.put o.dst (.k undef)) (ds ++ [⟨.k undef, none, none, slotsOf all o, [], []⟩]) rest) → wpR rr C.P (Code.region id all true) Q a W := by
      intro hwant hv1
      have hsh : (s.put o.dst (.k undef)).sh = s.sh := by cases o.dst <;> rfl
      have hkn : (s.put o.dst (.k undef)).kn = s.kn := by cases o.dst <;> rfl
      exact next _ _ s ρ (by rw [hsh, hkn]; exact put_eff _) (List.prefix_refl _) (by rw [hsh]; exact List.prefix_refl _) hsh.symm ⟨by rw [hsh]; exact hg.len, by rw [hsh]; exact hg.fit, by rw [hkn]; exact hg.kn⟩ (hist_skip hwant hg) hv1
    have go : ∀ (hwant : ∀ (s' : S) ρf a' W', s'.kn = s.kn → AgreeAt (slotsOf all o) [] [] s' s → Inv w0 ps T ρf s' a' W' → Region.wanted o (yielded all a'.tmps) = true),
        VC C w0 ps T0 R L ρ (planGo C inl (fun s' it => run C Gk m 0 s' it) all base cont tail n s ds o rest) → wpR rr C.P (Code.region id all true) Q a W := by
      intro hwant hv
      unfold planGo at hv
      split at hv
      · simp [VC] at hv
      rename_i vs hvs
      split at hv
      · rename_i v new wr hpl
        split at hv
        · rename_i hw
          simp only [Bool.and_eq_true] at hw
          have hnone := free_at hw.2
          have hsh : (s.eff (base + ds.length) o.dst v new wr).sh = s.sh := (eff_same0 ..).sh
          have hkn : (s.eff (base + ds.length) o.dst v new wr).kn = s.kn := (eff_same0 ..).kn
          exact next ⟨v, new, wr, slotsOf all o, cNames s.hp o.op vs, shNames o.op vs ++ effNames (base + ds.length) v new wr⟩ _ s ρ rfl (List.prefix_refl _) (by rw [hsh]; exact List.prefix_refl _) hsh.symm ⟨by rw [hsh]; exact hg.len, by rw [hsh]; exact hg.fit, by rw [hkn]; exact hg.kn⟩ (hist_ef hg hwant hvs hpl hw.1 hnone) hv
        simp [VC] at hv
      · rename_i q args sh mk new wr hpl
        split at hv
        · rename_i hw
          simp only [Bool.and_eq_true] at hw
          obtain ⟨⟨⟨h1, h2⟩, h3⟩, h4⟩ := hw
          simp only [VC] at hv
          obtain ⟨v, hrel, hfit, hv⟩ := hv.resolve_right fun ⟨_, _, hq, _⟩ => relN_no h2 (hq fun _ => default)
          have hsh : ((s.ext sh).eff (base + ds.length) o.dst (resV s.sh.length sh mk) new wr).sh = (s.ext sh).sh := (eff_same0 ..).sh
          have hkn : ((s.ext sh).eff (base + ds.length) o.dst (resV s.sh.length sh mk) new wr).kn = s.kn := (eff_same0 ..).kn
          have hge := hg.ext (h := sh) hfit
          exact next ⟨resV s.sh.length sh mk, new, wr, slotsOf all o, cNames s.hp o.op vs, shNames o.op vs ++ effNames (base + ds.length) (resV s.sh.length sh mk) new wr⟩ _ (s.ext sh) (ρ ++ [v]) (by
              rw [hsh, hkn]
              exact eff_wk s (s.ext sh).sh s.kn _ _ _ _ _) ⟨[v], rfl⟩ (by rw [hsh]; exact ⟨[sh], rfl⟩) hsh.symm ⟨by rw [hsh]; exact hge.len, by rw [hsh]; exact hge.fit, by rw [hkn]; exact hge.kn⟩
            (hist_df hC hps hg hwant hvs hpl hrel h1 h2 hfit h3 (free_at h4)) hv
        simp [VC] at hv
      · rename_i i p hpl
        split at hv
        · rename_i hi
          simp only [VC] at hv
          obtain ⟨b, hb, hbt, hbf⟩ := hv
          cases b
          · exact again i p _ hi hb (hbf rfl)
          exact again i p _ hi hb (hbt rfl)
        simp [VC] at hv
      · rename_i i p k hpl
        split at hv
        · rename_i hi
          simp only [VC] at hv
          obtain ⟨⟨j, hj, hu⟩, hv⟩ := hv
          have hj' : j < k := by simpa using hj
          have := VCs_at (j := j) hv (t := planRun C inl (fun s' it => run C Gk m 0 s' it) all base cont tail n (s.dec i p (.int .i64 (j : Int))) ds (o :: rest)) (by simp [hj']) (by rw [hu, Nat.zero_add])
          exact again i p _ hi hu this
        simp [VC] at hv
      split at hv
      · rename_i htl
        simp only [Bool.and_eq_true] at htl
        obtain ⟨_, htl⟩ := htl
        obtain ⟨hQ, h9⟩ := htail s ρ (o :: rest) hv hρ
        have hpre : all = (pre ++ o :: rest).toArray := by rw [← Array.toArray_toList (xs := all), hall]
        subst hpre
        obtain ⟨α, hA⟩ := hI0
        have hgs : Good ρ (s0.wk s.sh s.kn) := ⟨hg.len, hg.fit, hg.kn⟩
        have hA' := hA.grow hρ hgs
        have hz : (pre ++ o :: rest).zip ds = pre.zip ds := by
          rw [← List.append_nil ds, List.zip_append hlen]; simp
        refine draw_tail (base := base) (ds := ds) (s0 := s0.wk s.sh s.kn) hmix hQ (by simpa using htl) (fun i o d hd => ?_) ⟨α, hA'⟩ fun a' W' h => ?_
        · rw [hz] at hd ⊢
          have := hh i o d hd ρ s.sh s.kn (List.prefix_refl _) (List.prefix_refl _)
          have e2 := app_take (base := base) (pre.zip ds) 0 i (s0.wk s.sh s.kn)
          simp only [Nat.zero_add] at e2
          rw [e2, app_wk]
          exact this
        rw [hz, app_wk, ← hs] at h
        simpa [← hlen] using h9 a' W' h
      split at hv
      · rename_i c g cap args hop _ _
        split at hv
        · rename_i f fn hcal hfn hen
          split at hv
          · rename_i body hbody
            split at hv
            · rename_i hw
              simp only [Bool.and_eq_true, decide_eq_true_eq] at hw hen
              split at hv
              · rename_i v hp' stk' ht
                split at hv
                · rename_i hc
                  simp only [Bool.and_eq_true] at hc
                  have hsh : (s.put o.dst v).sh = s.sh := by cases o.dst <;> rfl
                  have hkn : (s.put o.dst v).kn = s.kn := by cases o.dst <;> rfl
                  exact next ⟨v, none, none, slotsOf all o, namesL (args ++ cap), namesL (args ++ cap)⟩ _ s ρ (by rw [hsh, hkn]; exact put_eff _) (List.prefix_refl _) (by rw [hsh]; exact List.prefix_refl _) hsh.symm ⟨by rw [hsh]; exact hg.len, by rw [hsh]; exact hg.fit, by rw [hkn]; exact hg.kn⟩
                    (hist_inl hrun hps hgk hg hwant hvs hop hcal hen.1 hfn hbody ht hw.1 hw.2 hc.1.1 hc.1.2 hc.2) hv
                split at hv
                · rename_i r b had
                  split at hv
                  · rename_i hc
                    simp only [Bool.and_eq_true] at hc
                    obtain ⟨⟨⟨⟨⟨c1, c2⟩, c3⟩, c4⟩, c5⟩, c6⟩ := hc
                    have hsh : (s.eff (base + ds.length) o.dst (v.ren r (base + ds.length)) (some b) none).sh = s.sh := by cases o.dst <;> rfl
                    have hkn : (s.eff (base + ds.length) o.dst (v.ren r (base + ds.length)) (some b) none).kn = s.kn := by cases o.dst <;> rfl
                    exact next ⟨v.ren r (base + ds.length), some b, none, slotsOf all o, namesL (args ++ cap), namesL (args ++ cap) ++ effNames (base + ds.length) (v.ren r (base + ds.length)) (some b) none⟩ _ s ρ (by rw [hsh, hkn]; cases o.dst <;> rfl) (List.prefix_refl _) (by rw [hsh]; exact List.prefix_refl _) hsh.symm ⟨by rw [hsh]; exact hg.len, by rw [hsh]; exact hg.fit, by rw [hkn]; exact hg.kn⟩
                      (hist_new hrun hps hgk hg hwant hvs hop hcal hen.1 hfn hbody ht hw.1 hw.2 c1 c2 had c3 c4 c5 (free_at c6)) hv
                  simp [VC] at hv
                simp [VC] at hv
              split at hv <;> simp [VC] at hv
            simp [VC] at hv
          simp [VC] at hv
        simp [VC] at hv
      simp [VC] at hv
    split at hv
    · rename_i hgd
      exact go (fun s' ρf a' W' _ _ _ => by simp [Region.wanted, hgd]) hv
    rename_i g want hgd
    split at hv
    · simp [VC] at hv
    rename_i d hd
    have hds : d ∈ slotsOf all o := by simp [slotsOf, hgd, hd]
    split at hv
    · rename_i u hl
      exact skip (fun s' ρf a' W' hk hag ⟨α, hA⟩ => wanted_no hA hgd hd (by rw [look_agree hk (hag.fr d hds)]; exact hl)) hv
    · rename_i b hl
      split at hv
      · rename_i hb
        exact go (fun s' ρf a' W' hk hag ⟨α, hA⟩ => (wanted_of hA hgd hd (by rw [look_agree hk (hag.fr d hds)]; exact hl)).trans hb) hv
      rename_i hb
      exact skip (fun s' ρf a' W' hk hag ⟨α, hA⟩ => (wanted_of hA hgd hd (by rw [look_agree hk (hag.fr d hds)]; exact hl)).trans (by simpa using hb)) hv
    · rename_i i p hl
      split at hv
      · rename_i hi
        simp only [VC] at hv
        obtain ⟨b, hb, hbt, hbf⟩ := hv
        cases b
        · exact again i p _ hi hb (hbf rfl)
        exact again i p _ hi hb (hbt rfl)
      simp [VC] at hv
    simp [VC] at hv
end
end SX
namespace SX
variable (C : Cx) (N : List Arg)
theorem planV_plus : planV (C.plus N) = planV C := by cases C; kernel_rfl
theorem nCall_plus : nCall (C.plus N) = nCall C := by cases C; kernel_rfl
theorem frzV_plus : frzV (C.plus N) = frzV C := by cases C; kernel_rfl
theorem cutT_plus : cutT (C.plus N) = cutT C := by cases C; kernel_rfl
theorem planRun_plus1 (inl : FuncId → Bool) (sub : S → List It → Tree) (all : Array Oper) (base : Nat) (cont : S → Tree) (tail : S → List Oper → Tree) : ∀ n, planRun (C.plus N) inl sub all base cont tail n = planRun C inl sub all base cont tail n := by
  intro n
  induction n with
  | zero => rfl
  | succ n ih =>
    funext s ds ops
    unfold planRun
    simp only [ih, planV_plus]
    rfl
theorem planRun_plus : planRun (C.plus N) = planRun C := by
  funext inl sub all base cont tail n
  exact planRun_plus1 C N inl sub all base cont tail n
theorem run_plus : ∀ (n : Nat) (G : Cfg) (lv : Nat) (s : S) (items : List It), run (C.plus N) G n lv s items = run C G n lv s items := by
  intro n
  induction n with
  | zero => intro G lv s items; rfl
  | succ n ih =>
    have e : ∀ G, run (C.plus N) G n = run C G n := fun G => funext fun lv => funext fun s => funext fun items => ih G lv s items
    intro G lv s items
    unfold run
    simp only [e, planV_plus, nCall_plus, frzV_plus, cutT_plus, planRun_plus]
    rfl
end SX
namespace SX
section
variable {C : Cx} {R : Ending → World → Prop} {w0 : Org} {ps : List (World → Prop)} {T T0 : List TF} {ρ : List Value} {s : S} {a : Act} {W : World} {α : Nat → AV}
theorem res_ok (hI : InvA w0 ps T ρ s a W α) {fn : Func} {v : V} (h : resOf C.P s fn = some v) : (results fn a.tmps).run C.P W = .ok (v.den ρ α) W := by
  have key : ∀ {l : List ResultVar} {vs : List V}, l.mapM (resOf1 C.P s) = some vs → (l.mapM (res1 a.tmps)).run C.P W = .ok (denL ρ α vs) W := by
    intro l
    induction l with
    | nil => intro vs h; simp at h; subst h; simp [denL]
    | cons r l ih =>
      intro vs h
      simp only [List.mapM_cons, Option.bind_eq_bind, Option.bind_eq_some_iff] at h
      obtain ⟨v, hv, vs', hvs, h⟩ := h
      simp at h
      subst h
      have h1 := res1_ok hI hv
      simp only [List.mapM_cons, Sem.run_bind, h1, Result.andThen_ok, ih hvs, Sem.run_pure, denL]
  rw [results_eq, Array.mapM_eq_mapM_toList]
  unfold resOf at h
  split at h
  · rename_i u hu
    obtain rfl : u = v := by simpa using h
    have := key hu
    simp only [map_eq_pure_bind, bind_assoc, pure_bind, Sem.run_bind, this, Result.andThen_ok, Sem.run_pure, denL]
    simp
  · rename_i vs hne hu
    obtain rfl : V.t vs = v := by simpa using h
    have := key hu
    simp only [map_eq_pure_bind, bind_assoc, pure_bind, Sem.run_bind, this, Result.andThen_ok, Sem.run_pure, V.den]
    have hl : ¬ (denL ρ α vs).toArray.size = 1 := by
      simp [denL_len]
      intro h1
      match vs, h1, hne with
      | [v], _, hne => exact hne v rfl
    rw [dif_neg hl]
  cases h
theorem blks_room (hp : List (Option Blk)) (m : Nat) (vs : List V) : blks (hp ++ List.replicate m none) vs = blks hp vs := by
  unfold blks
  refine List.map_congr_left fun n _ => ?_
  congr 1
  by_cases h : n < hp.length
  · rw [List.getElem?_append_left h]
  rw [List.getElem?_append_right (by omega), List.getElem?_eq_none (l := hp) (by omega), List.getElem?_replicate]
  split <;> rfl
theorem at_room (hp : List (Option Blk)) (m n : Nat) : ((hp ++ List.replicate m none)[n]?).join = (hp[n]?).join := by
  by_cases h : n < hp.length
  · rw [List.getElem?_append_left h]
  rw [List.getElem?_append_right (by omega), List.getElem?_eq_none (l := hp) (by omega), List.getElem?_replicate]
  split <;> rfl
theorem nest_room (hp : List (Option Blk)) (m : Nat) : ∀ vs : List V, nestV (hp ++ List.replicate m none) vs = nestV hp vs
  | [] => rfl
  | v :: l => by
    unfold nestV
    rw [nest_room hp m l]
    congr 1
    cases v <;> try rfl
    simp only [at_room]
theorem see_room (s : S) (m : Nat) (op : Op) (vs : List V) : (s.room m).see op vs = s.see op vs := by
  unfold S.see
  split
  · exact blks_room s.ln m vs
  show blks (s.hp ++ List.replicate m none) (deepV (s.hp ++ List.replicate m none) op vs) = blks s.hp (deepV s.hp op vs)
  have : deepV (s.hp ++ List.replicate m none) op vs = deepV s.hp op vs := by
    unfold deepV; rw [nest_room]
  rw [this]
  exact blks_room s.hp m _
theorem ef_old {K : Act → World → Prop} {Q : Exit → Act → World → Prop} {o : Oper} {v : V} {wr : Option (Nat × Blk)} {vs : List V} (hvs : o.op.operands.toList.mapM s.ev = some vs) (h : planV C s.sh s.hp.length o.op vs (s.see o.op vs) = .ef v none wr) (hI : Inv w0 ps T ρ s a W)
    (hw : effWf s s.hp.length v none wr = true) (hK : ∀ a' W', Inv w0 ps T ρ (s.eff s.hp.length o.dst v none wr) a' W' → K a' W') : o.wp C.P a W K Q := by
  obtain ⟨α, hI⟩ := hI
  exact ef_ok (s := s) (nm := s.hp.length) (vs := vs) (List.prefix_refl _) hvs h hI (.inl rfl) hw hK
theorem ef_new {K : Act → World → Prop} {Q : Exit → Act → World → Prop} {o : Oper} {v : V} {b : Blk} {wr : Option (Nat × Blk)} {vs : List V} (hvs : o.op.operands.toList.mapM s.ev = some vs) (h : planV C s.sh s.hp.length o.op vs (s.see o.op vs) = .ef v (some b) wr) (hI : Inv w0 ps T ρ s a W)
    (hw : (effWf (s.room 1) s.hp.length v (some b) wr && freeAt (s.room 1) s.hp.length) = true) (hK : ∀ a' W', Inv w0 ps T ρ ((s.room 1).eff s.hp.length o.dst v (some b) wr) a' W' → K a' W') : o.wp C.P a W K Q := by
  obtain ⟨α, hI⟩ := hI
  simp only [Bool.and_eq_true] at hw
  refine ef_ok (s := s.room 1) (nm := s.hp.length) (vs := vs) (List.prefix_refl _) hvs ?_ (hI.room 1) (.inr (free_at hw.2)) hw.1 hK
  rw [see_room]
  exact h
theorem df_old (hC : C.Ok) (hps : Ctx C w0 ps) {K : Act → World → Prop} {Q : Exit → Act → World → Prop} {o : Oper} {q : Opq} {args : List V} {sh : Sh} {mk : Option V} {wr : Option (Nat × Blk)} {v : Value} {vs : List V} (hvs : o.op.operands.toList.mapM s.ev = some vs) (h : planV C s.sh s.hp.length o.op vs (s.see o.op vs) = .df q args sh mk none wr) (hI : InvA w0 ps T ρ s a W α)
    (hrel : q.rel C ρ α args v) (hfit : sh.fit v = true) (hw : (wfL s.ln s.sh.length args && q.wf s.ln s.sh.length && effWf (s.ext sh) s.hp.length (resV s.sh.length sh mk) none wr) = true) (hK : ∀ a' W', Inv w0 ps T (ρ ++ [v]) ((s.ext sh).eff s.hp.length o.dst (resV s.sh.length sh mk) none wr) a' W' → K a' W') : o.wp C.P a W K Q := by
  simp only [Bool.and_eq_true] at hw
  obtain ⟨⟨h1, h2⟩, h3⟩ := hw
  rw [hI.good.len] at h1 h2
  exact df_ok hC hps hvs h hI (rel_mono ⟨[v], rfl⟩ h1 h2 hrel) hfit (.inl rfl) h3 hK
theorem df_new (hC : C.Ok) (hps : Ctx C w0 ps) {K : Act → World → Prop} {Q : Exit → Act → World → Prop} {o : Oper} {q : Opq} {args : List V} {sh : Sh} {mk : Option V} {b : Blk} {wr : Option (Nat × Blk)} {v : Value} {vs : List V} (hvs : o.op.operands.toList.mapM s.ev = some vs) (h : planV C s.sh s.hp.length o.op vs (s.see o.op vs) = .df q args sh mk (some b) wr) (hI : InvA w0 ps T ρ s a W α)
    (hrel : q.rel C ρ α args v) (hfit : sh.fit v = true) (hw : (wfL s.ln s.sh.length args && q.wf s.ln s.sh.length && effWf ((s.room 1).ext sh) s.hp.length (resV s.sh.length sh mk) (some b) wr && freeAt (s.room 1) s.hp.length) = true) (hK : ∀ a' W', Inv w0 ps T (ρ ++ [v]) (((s.room 1).ext sh).eff s.hp.length o.dst (resV s.sh.length sh mk) (some b) wr) a' W' → K a' W') : o.wp C.P a W K Q := by
  simp only [Bool.and_eq_true] at hw
  obtain ⟨⟨⟨h1, h2⟩, h3⟩, h4⟩ := hw
  rw [hI.good.len] at h1 h2
  refine df_ok (s := s.room 1) hC hps hvs ?_ (hI.room 1) (rel_mono ⟨[v], rfl⟩ h1 h2 hrel) hfit (.inr (free_at h4)) h3 hK
  rw [see_room]
  exact h
theorem skip_inv (hI : Inv w0 ps T ρ s a W) (d : Option Tmp) : Inv w0 ps T ρ (s.put d (.k undef)) (a.put d undef) W :=
  let ⟨α, h⟩ := hI; ⟨α, h.put_any d rfl rfl⟩
theorem br_inv (hI : Inv w0 ps T ρ s a W) {i : Nat} {p : List Nat} {v : Value} (hi : i < s.sh.length) (hv : p.foldl comp (ρ.getD i undef) = v) : Inv w0 ps T ρ (s.dec i p v) a W :=
  let ⟨α, h⟩ := hI; ⟨α, h.dec (by rw [← h.good.len]; exact hi) hv⟩
theorem InvA.take (hI : InvA w0 ps T ρ s a W α) : ∃ W', takeM a.defers W = some W' ∧ InvA w0 ps T ρ s { a with defers := [] } W' α := by
  obtain ⟨W', h1, h2⟩ := take_ok (os := loopOs s.lps T) a.defers W hI.defers.1 hI.st
  exact ⟨W', h1, ⟨nofun, hI.defers.2⟩, hI.good, hI.wf, hI.fm, hI.fms, h2, hI.rows, hI.lens⟩
theorem loopOs_some {c : TF} {l : Nat} {r : Loop} (h : c.lp = some (l, r)) (q : Nat × LS) (lps : List (Nat × LS)) (T : List TF) : loopOs (q :: lps) (c :: T) = ⟨l, .loop { r with state := q.2.st, pending := q.2.pe }⟩ :: ⟨r.defers, .deferred (some [])⟩ :: (markOs c.ds ++ loopOs lps T) := by
  conv => lhs; unfold loopOs
  rw [h]
theorem loopOs_none {c : TF} (h : c.lp = none) (lps : List (Nat × LS)) (T : List TF) : loopOs lps (c :: T) = markOs c.ds ++ loopOs lps T := by
  conv => lhs; unfold loopOs
  rw [h]
theorem Lps_some {ok : Nat → Bool} {c : TF} {l : Nat} {r : Loop} (h : c.lp = some (l, r)) {q : Nat × LS} {lps : List (Nat × LS)} {T : List TF} : Lps α ok (q :: lps) (c :: T) ↔ Marks c.ds ∧ (ok q.1 = true ∧ (α q.1).b = l ∧ r.state = .ready ∧ r.pending = none ∧ r.tmps = c.t) ∧ Lps α ok lps T := by
  conv => lhs; unfold Lps
  rw [h]
theorem Lps_none {ok : Nat → Bool} {c : TF} (h : c.lp = none) {lps : List (Nat × LS)} {T : List TF} : Lps α ok lps (c :: T) ↔ Marks c.ds ∧ Lps α ok lps T := by
  conv => lhs; unfold Lps
  rw [h]
theorem rec_ready {r : Loop} (h1 : r.state = .ready) (h2 : r.pending = none) : ({ r with state := .ready, pending := none } : Loop) = r := by cases r; simp_all
theorem rec_busy {r : Loop} (h2 : r.pending = none) : ({ r with state := .busy, pending := none } : Loop) = { r with state := .busy } := by cases r; simp_all
theorem lpOf_some {T : List TF} (h : (lpOf T).isSome = true) : ∃ c T' l r, T = c :: T' ∧ c.lp = some (l, r) := by
  cases T with
  | nil => simp [lpOf] at h
  | cons c T' =>
    simp only [lpOf] at h
    cases hc : c.lp with
    | none => rw [hc] at h; cases h
    | some e => exact ⟨c, T', e.1, e.2, rfl, by rw [hc]⟩
theorem roundF_ok (args : List V) : ∀ (l : List Tmp) (as' : List V) (fr : List (Option V)) (t : Array Value), Fm ρ α fr t → Fm ρ α ((l.zip as').foldl (fun f e => f.set e.1 (some e.2)) fr) ((l.zip (denL ρ α as')).foldl (fun tmps e => tmps.setIfInBounds e.1 e.2) t)
  | [], _, fr, t, h => by simpa using h
  | _ :: _, [], fr, t, h => by simpa [denL] using h
  | x :: l, v :: as', fr, t, h => by
    simp only [denL, List.zip_cons_cons, List.foldl_cons]
    exact roundF_ok args l as' _ _ (h.set x v)
theorem roundF_wf {ln : List (Option Blk)} {m : Nat} : ∀ (l : List Tmp) (as' : List V) (fr : List (Option V)), WfF ln m fr → wfL ln m as' = true → WfF ln m ((l.zip as').foldl (fun f e => f.set e.1 (some e.2)) fr)
  | [], _, fr, h, _ => by simpa using h
  | _ :: _, [], fr, h, _ => by simpa using h
  | x :: l, v :: as', fr, h, hw => by
    simp only [wfL, Bool.and_eq_true] at hw
    simp only [List.zip_cons_cons, List.foldl_cons]
    refine roundF_wf l as' _ (fun u hu => ?_) hw.2
    rcases mem_set hu with hu | hu
    · obtain rfl : u = v := by simpa using hu
      exact hw.1
    exact h u hu
theorem roundT_eq (r : Loop) (as' : List V) : roundT r (denL ρ α as').toArray = (r.params.toList.zip (denL ρ α as')).foldl (fun tmps e => tmps.setIfInBounds e.1 e.2) r.tmps := by
  unfold roundT
  rw [← Array.foldl_toList, Array.toList_zip]
theorem none_rest {l : List (Option Blk)} {k : Nat} (h : (l.drop k).all Option.isNone = true) {n : Nat} {b : Blk} (hn : l[n]? = some (some b)) : (l.take k)[n]? = some (some b) := by
  rcases Nat.lt_or_ge n k with hk | hk
  · rw [List.getElem?_take, if_pos hk]; exact hn
  exfalso
  have h1 : (l.drop k)[n - k]? = some (some b) := by rw [List.getElem?_drop, show k + (n - k) = n by omega]; exact hn
  have := List.all_eq_true.1 h _ (List.mem_of_getElem? h1)
  cases this
theorem none_split {l : List (Option Blk)} {k : Nat} (h : (l.drop k).all Option.isNone = true) : l = l.take k ++ List.replicate (l.drop k).length none := by
  have : l.drop k = List.replicate (l.drop k).length none := List.eq_replicate_iff.2 ⟨rfl, fun x hx => by
    have := List.all_eq_true.1 h x hx
    cases x
    · rfl
    cases this⟩
  rw [← this, List.take_append_drop]
theorem InvA.trim (hI : InvA w0 ps T ρ s a W α) (b : Bool) (base : Nat) : InvA w0 ps T ρ (s.trim b base) a W α := by
  unfold S.trim
  split
  · exact hI
  generalize max base (max (lastSome 0 0 s.hp) (lastSome 0 0 s.ln)) = k
  dsimp only
  split
  · rename_i hc
    simp only [Bool.and_eq_true] at hc
    obtain ⟨h1, h2⟩ := hc
    have hlv : ∀ n, lv s.ln n = true → lv (s.ln.take k) n = true := fun n hn => by
      obtain ⟨b, hb⟩ := lv_iff.1 hn
      exact lv_iff.2 ⟨b, none_rest h2 hb⟩
    have hback : ∀ {l : List (Option Blk)} {n : Nat} {b : Blk}, (l.take k)[n]? = some (some b) → l[n]? = some (some b) := fun {l n b} h => by
      rw [List.getElem?_take] at h
      split at h
      · exact h
      cases h
    refine ⟨⟨hI.defers.1, hI.defers.2.to (fun _ _ => rfl) hlv⟩, ⟨hI.good.len, hI.good.fit, hI.good.kn⟩, ⟨hI.wf.fr.mono hlv (Nat.le_refl _), fun f hf => (hI.wf.stk f hf).mono hlv (Nat.le_refl _), fun c hc => ?_, fun c hc => ?_⟩, hI.fm, hI.fms, ?_, fun n b hb => ?_, fun n b hb => hI.lens n b (hback hb)⟩
    · exact wfL_mono hlv (Nat.le_refl _) c.c (hI.wf.hp c (List.mem_of_mem_take hc))
    · exact wfL_mono hlv (Nat.le_refl _) c.c (hI.wf.ln c (List.mem_of_mem_take hc))
    · have e1 := none_split h1
      have hst := hI.st
      have e2 : chs ρ α 0 s.hp = chs ρ α 0 (s.hp.take k) := by
        conv => lhs; rw [e1, chs_append]
      rw [e2] at hst
      exact st_ps hst (app_sub (exs_sub fun n b hb => .inr ⟨b, hback hb, rfl⟩))
    obtain ⟨h3, h4⟩ := hI.rows n b (hback hb)
    exact ⟨hlv n h3, h4⟩
  exact hI
theorem wpK_panic {P : Program} {R : Ending → World → Prop} : ∀ {k : List It} {T : List TF} {J : List (Act → World → Prop)}, noJmp k = true → ∀ c a W, ¬ wpK P R k T J (.panic c) a W
  | [], _, _, _, _, _, _ => fun h => h
  | .top _ :: _, _, _, _, _, _, _ => fun h => h
  | .code _ :: k, _, _, h, c, a, W => fun hh => wpK_panic (k := k) h c a W hh
  | .inBlock _ :: k, _, _, h, c, a, W => fun hh => wpK_panic (k := k) h c a W hh
  | .rounds _ _ :: k, _, _, h, c, a, W => fun hh => wpK_panic (k := k) h c a W hh
  | .ops _ _ :: k, _, _, h, c, a, W => fun hh => wpK_panic (k := k) h c a W hh
  | .back _ _ _ _ _ :: _, [], _, _, _, _, _ => fun h => h
  | .back _ _ _ _ _ :: _, _ :: _, _, _, _, _, _ => fun h => h
  | .again _ _ _ _ :: k, _, [], _, _, _, _ => fun h => h
  | .again _ _ _ _ :: k, _, _ :: _, h, c, a, W => fun hh => wpK_panic (k := k) h c a W hh
  | .beginR :: _, _, _, _, _, _, _ => fun h => h
  | .endR _ _ _ _ :: _, [], _, _, _, _, _ => fun h => h
  | .endR _ _ _ _ :: _, _ :: _, _, _, _, _, _ => fun ⟨_, _, _, h⟩ => h.2
  | .endl _ _ _ _ _ :: _, [], _, _, _, _, _ => fun h => h
  | .endl _ _ _ _ _ :: _, _ :: _, _, _, _, _, _ => fun h => h
  | .jump _ :: _, _, _, h, _, _, _ => nomatch h
theorem cutT_vc {R : Ending → World → Prop} {T0 : List TF} {L : List (Cx → List Value → Prop)} {i : Nat} {b : Bool} {t : Tree} (h : VC C w0 ps T0 R L ρ (cutT C s i b t)) : VC C w0 ps T0 R L ρ t := by
  unfold cutT at h
  split at h
  · simp [VC] at h
  exact h
def goT (C : Cx) (G : Cfg) (n lv : Nat) (s : S) (all : Array Oper) (o : Oper) (rest : List Oper) (k : List It) : Tree :=
  match o.op.operands.toList.mapM s.ev with
        | none => .bad 16 [o.op]
        | some vs => match cvV C.P G.keep s o.op vs with
          | some (n0, b, _) => if effWf ((s.lay n0 tomb).room 1) s.hp.length (.row s.hp.length) (some ⟨[.a b.c], 0, .ext 1⟩) none && freeAt ((s.lay n0 tomb).room 1) s.hp.length then run C G n lv (((s.lay n0 tomb).room 1).eff s.hp.length o.dst (.row s.hp.length) (some ⟨[.a b.c], 0, .ext 1⟩) none) (.ops all rest :: k) else .bad 82 [o.op]
          | none => match nCall C (s.see o.op vs) o.op vs with
          | some (g, rw, as', sh) => if effWf (s.ext sh) s.hp.length (resV s.sh.length sh none) none none then .df (.callq g rw) as' sh (run C G n lv ((s.ext sh).eff s.hp.length o.dst (resV s.sh.length sh none) none none) (.ops all rest :: k)) else .bad 80 [o.op]
          | none => match planV C s.sh s.hp.length o.op vs (s.see o.op vs) with
          | .ef v none wr => if effWf s s.hp.length v none wr then run C G n lv (s.eff s.hp.length o.dst v none wr) (.ops all rest :: k) else .bad 17 [o.op]
          | .ef v (some b) wr => if effWf (s.room 1) s.hp.length v (some b) wr && freeAt (s.room 1) s.hp.length then run C G n lv ((s.room 1).eff s.hp.length o.dst v (some b) wr) (.ops all rest :: k) else .bad 18 [o.op]
          | .df q args sh mk none wr => if wfL s.ln s.sh.length args && q.wf s.ln s.sh.length && effWf (s.ext sh) s.hp.length (resV s.sh.length sh mk) none wr then .df q args sh (run C G n lv ((s.ext sh).eff s.hp.length o.dst (resV s.sh.length sh mk) none wr) (.ops all rest :: k)) else .bad 20 [o.op]
          | .df q args sh mk (some b) wr => if wfL s.ln s.sh.length args && q.wf s.ln s.sh.length && effWf ((s.room 1).ext sh) s.hp.length (resV s.sh.length sh mk) (some b) wr && freeAt (s.room 1) s.hp.length then .df q args sh (run C G n lv (((s.room 1).ext sh).eff s.hp.length o.dst (resV s.sh.length sh mk) (some b) wr) (.ops all rest :: k)) else .bad 19 [o.op]
          | .br i p => if i < s.sh.length then .br i p (run C G n lv (s.dec i p (.bool true)) (.ops all (o :: rest) :: k)) (run C G n lv (s.dec i p (.bool false)) (.ops all (o :: rest) :: k)) else .bad 21 [o.op]
          | .sp i p m => if i < s.sh.length then .sp i p ((List.range m).map fun (j : Nat) => run C G n lv (s.dec i p (.int .i64 (j : Int))) (.ops all (o :: rest) :: k)) else .bad 22 [o.op]
          | .no => match frzV C s G.keep o.op vs with
            | some n0 => run C G n lv (s.freeze n0) (.ops all (o :: rest) :: k)
            | none => match o.op, vs with
            | .call c, .f (.func g) fs cap :: args => match c.callee, C.P.funcs[g]?, enters C.P g && G.inl g with
              | .value _, some fn, true => match fn.body with
                | some body => if (fs ++ (args ++ cap)).length ≤ fn.ntmps && wfL s.ln s.sh.length (fs ++ (args ++ cap)) then
                    run C G n lv { s with fr := (fs ++ (args ++ cap)).map some ++ List.replicate (fn.ntmps - (fs ++ (args ++ cap)).length) (some (.k undef)), stk := s.fr :: s.stk, cur := g } (.code body :: .back fn s.cur o.dst all rest :: k) else .bad 23 [o.op]
                | none => .bad 24 [o.op]
              | _, _, _ => .bad 25 [o.op]
            | .call c, .y m :: args => match c.callee, s.lps, s.stk, endlOf k with
              | .value _, (m', .ready) :: _, fr :: _, some (cur, ps, assign, body) => if m = m' ∧ args.length = ps.size ∧ wfL s.ln s.sh.length args = true then
                  run C G n lv { s with fr := roundF fr ps args, stk := s.fr :: s.stk, cur := cur } (.code assign :: .beginR :: .code body :: .endR s.cur o.dst all rest :: k) else .bad 61 [o.op]
              | _, _, _, _ => .bad 62 [o.op]
            | _, _ => .bad 26 [o.op]
theorem frzV_eq {k : Nat} {op : Op} {vs : List V} {n0 : Nat} (h : frzV C s k op vs = some n0) : k = 12 ∧ ∃ b, s.hp[n0]? = some (some b) ∧ b.k = .cells := by
  unfold frzV at h
  split at h
  · rename_i hk
    refine ⟨hk, ?_⟩
    split at h
    · split at h
      · have hm := List.mem_of_getElem? h
        obtain ⟨j, _, hj⟩ := List.mem_filterMap.1 hm
        split at hj
        · split at hj
          · rename_i b hb
            split at hj
            · rename_i hbk
              cases hj
              exact ⟨b, join_some hb, hbk⟩
            cases hj
          cases hj
        cases hj
      cases h
    cases h
  cases h
theorem InvA.freeze (hI : InvA w0 ps T ρ s a W α) (hms : w0.ms = []) {n0 : Nat} {b : Blk} (hn : s.hp[n0]? = some (some b)) (hk : b.k = .cells) : InvA w0 ps T ρ (s.freeze n0) a W α := by
  have hfz : s.freeze n0 = s.lay n0 ⟨b.c, b.t, .froz⟩ := by unfold S.freeze; rw [hn]; rfl
  rw [hfz]
  obtain ⟨l1, l2, h1, h2⟩ := chs_split (ρ := ρ) (α := α) (k := 0) hn
  have hch : (some b).bind (fun b => b.ch ρ α (0 + n0)) = some ⟨(α n0).b, (denL ρ α b.c).toArray, b.t⟩ := by simp [Blk.ch, hk]
  have hst := hI.st
  rw [h1, hch] at hst
  have hst : St w0 (l1 ++ ((⟨(α n0).b, (denL ρ α b.c).toArray, b.t⟩ : Ch) :: l2)) (osA a s T) (exs w0 ρ α 0 s.hp ++ ps) W := hst
  have hmem : (⟨(α n0).b, (denL ρ α b.c).toArray, b.t⟩ : Ch) ∈ l1 ++ ((⟨(α n0).b, (denL ρ α b.c).toArray, b.t⟩ : Ch) :: l2) := by simp
  have hat := hst.at_ hmem
  have hge : w0.w.heap.size ≤ (α n0).b := (hst.ge_ hmem).resolve_right (by rw [hms]; simp)
  have hlt := hst.lt_ hmem
  have hnm : (α n0).b ∉ muts (l1 ++ l2) (osA a s T) := by
    have hnd := hst.nodup
    unfold muts at hnd ⊢
    rw [List.map_append, List.map_cons] at hnd
    rw [List.map_append]
    have hp : (l1.map (·.id) ++ (α n0).b :: l2.map (·.id) ++ (osA a s T).flatMap Ow.blk).Perm ((α n0).b :: (l1.map (·.id) ++ l2.map (·.id) ++ (osA a s T).flatMap Ow.blk)) := by
      simp only [List.append_assoc, List.cons_append]
      exact List.perm_middle
    exact (List.nodup_cons.1 (hp.nodup_iff.1 hnd)).1
  have hst2 : St w0 (l1 ++ l2) (osA a s T) (exs w0 ρ α 0 s.hp ++ ps) W := hst.weak (sub_mid _ _ _) (.refl _) fun _ h => h
  have hst3 := hst2.keep (p := fun W => W.heap[(α n0).b]? = some (.cells (denL ρ α b.c).toArray b.t (0, 0)) ∧ w0.w.heap.size ≤ (α n0).b) fun W' hW => ⟨(hW.block _ hlt hnm).trans hat, hge⟩
  refine ⟨hI.defers, ⟨hI.good.len, hI.good.fit, hI.good.kn⟩, ⟨hI.wf.fr, hI.wf.stk, fun d hd => ?_, hI.wf.ln⟩, hI.fm, hI.fms, ?_, fun m c hc => ?_, hI.lens⟩
  · rcases mem_set hd with h | h
    · obtain rfl : d = ⟨b.c, b.t, .froz⟩ := by simpa using h
      exact hI.wf.hp b (List.mem_of_getElem? hn)
    exact hI.wf.hp d h
  · show St w0 (chs ρ α 0 (s.hp.set n0 (some ⟨b.c, b.t, .froz⟩))) (osA a s T) (exs w0 ρ α 0 (s.hp.set n0 (some ⟨b.c, b.t, .froz⟩)) ++ ps) W
    rw [h2]
    have e : (some (⟨b.c, b.t, .froz⟩ : Blk)).bind (fun b => b.ch ρ α (0 + n0)) = none := by simp [Blk.ch]
    rw [e]
    refine st_ps hst3 fun p hp => ?_
    rcases List.mem_append.1 hp with hp | hp
    · obtain ⟨m, c, hc, he⟩ := exs_mem.1 hp
      rw [Nat.zero_add] at he
      rcases set_cases hc with ⟨rfl, rfl⟩ | ⟨_, h⟩
      · simp only [Blk.ex, Option.some.injEq] at he
        subst he
        exact List.mem_cons_self ..
      exact List.mem_cons_of_mem _ (List.mem_append.2 (.inl (exs_mem.2 ⟨m, c, h, by rw [Nat.zero_add]; exact he⟩)))
    exact List.mem_cons_of_mem _ (List.mem_append.2 (.inr hp))
  rcases set_cases hc with ⟨rfl, rfl⟩ | ⟨_, h⟩
  · exact ⟨hI.live _ _ hn, by simp [Blk.rowOk]⟩
  exact hI.rows m c h
theorem frzR_eq {k : Nat} {ops : Array Oper} {n0 : Nat} (h : frzR k s ops = some n0) : k = 12 ∧ ∃ b sz, s.hp[n0]? = some (some b) ∧ b.k = .row sz := by
  unfold frzR at h
  split at h
  · rename_i hk
    refine ⟨hk, ?_⟩
    split at h
    · have hm := List.mem_of_getElem? h
      obtain ⟨j, _, hj⟩ := List.mem_filterMap.1 hm
      split at hj
      · split at hj
        · split at hj
          · rename_i b hb
            split at hj
            · rename_i sz hbk
              cases hj
              exact ⟨b, sz, join_some hb, hbk⟩
            cases hj
          cases hj
        cases hj
      cases hj
    cases h
  cases h
theorem InvA.freezeR (hI : InvA w0 ps T ρ s a W α) (hms : w0.ms = []) {n0 sz : Nat} {b : Blk} (hn : s.hp[n0]? = some (some b)) (hk : b.k = .row sz) : InvA w0 ps T ρ (s.freezeR n0) a W α := by
  have hfz : s.freezeR n0 = s.lay n0 ⟨b.c, b.t, .ext sz⟩ := by unfold S.freezeR; rw [hn]; simp only [Option.join, Option.bind_some, id, hk]
  rw [hfz]
  obtain ⟨c, e, kk⟩ := b
  cases hk
  obtain ⟨l1, l2, h1, h2⟩ := chs_split (ρ := ρ) (α := α) (k := 0) hn
  have key : ∃ A len cap, (α n0).h = .slice A len cap ∧ ((denL ρ α c).flatMap cellsV).length = len * sz ∧ len ≤ cap ∧ (0 < len → A.isSome = true) ∧ St w0 (l1 ++ l2) (osA a s T) (exFact w0 ⟨(α n0).h, sz, (denL ρ α c).flatMap cellsV⟩ :: (exs w0 ρ α 0 s.hp ++ ps)) W := by
    have hst := hI.st
    rw [h1] at hst
    obtain ⟨h0, h | ⟨len, cap, g2, g3, g4, g5, g6, hm⟩⟩ := row_info hI hn
    · have hch : (some (⟨c, e, .row sz⟩ : Blk)).bind (fun b => b.ch ρ α (0 + n0)) = none := by simp [Blk.ch, h.2]
      rw [hch] at hst
      refine ⟨none, 0, 0, h.2, by rw [h.1]; simp, Nat.le_refl _, fun h => absurd h (Nat.lt_irrefl _), ?_⟩
      rw [h.1, h.2]
      exact St.keep hst fun W' _ => ⟨⟨Rd.none_, Nat.le_refl _⟩, .inl fun ad n c e _ => by cases e⟩
    have hch : (some (⟨c, e, .row sz⟩ : Blk)).bind (fun b => b.ch ρ α (0 + n0)) = some ⟨(α n0).b, ((denL ρ α c).flatMap cellsV ++ (α n0).tl).toArray, e⟩ := by
      simp only [Option.bind_some, Blk.ch, Nat.zero_add, g2]; rfl
    rw [hch] at hst
    have hst : St w0 (l1 ++ ((⟨(α n0).b, ((denL ρ α c).flatMap cellsV ++ (α n0).tl).toArray, e⟩ : Ch) :: l2)) (osA a s T) (exs w0 ρ α 0 s.hp ++ ps) W := hst
    have hmem : (⟨(α n0).b, ((denL ρ α c).flatMap cellsV ++ (α n0).tl).toArray, e⟩ : Ch) ∈ l1 ++ ((⟨(α n0).b, ((denL ρ α c).flatMap cellsV ++ (α n0).tl).toArray, e⟩ : Ch) :: l2) := by simp
    have hat := hst.at_ hmem
    have hge : w0.w.heap.size ≤ (α n0).b := (hst.ge_ hmem).resolve_right (by rw [hms]; simp)
    have hlt := hst.lt_ hmem
    have hnm : (α n0).b ∉ muts (l1 ++ l2) (osA a s T) := by
      have hnd := hst.nodup
      unfold muts at hnd ⊢
      rw [List.map_append, List.map_cons] at hnd
      rw [List.map_append]
      have hp : (l1.map (·.id) ++ (α n0).b :: l2.map (·.id) ++ (osA a s T).flatMap Ow.blk).Perm ((α n0).b :: (l1.map (·.id) ++ l2.map (·.id) ++ (osA a s T).flatMap Ow.blk)) := by
        simp only [List.append_assoc, List.cons_append]
        exact List.perm_middle
      exact (List.nodup_cons.1 (hp.nodup_iff.1 hnd)).1
    have hst2 : St w0 (l1 ++ l2) (osA a s T) (exs w0 ρ α 0 s.hp ++ ps) W := hst.weak (sub_mid _ _ _) (.refl _) fun _ h => h
    refine ⟨_, len, cap, g2, g3, g5, fun _ => rfl, ?_⟩
    rw [g2]
    refine hst2.keep fun W' hW => ⟨⟨?_, g5⟩, .inl fun ad n c e _ => ?_⟩
    · refine Rd.of_blk ((hW.block _ hlt hnm).trans hat) g3 fun j u hu => ?_
      rw [Nat.zero_add, List.getElem?_toArray, List.getElem?_append_left (List.getElem?_eq_some_iff.1 hu).1]
      exact hu
    cases e
    exact hge
  obtain ⟨A, len, cap, k1, k2, k3, k4, hst3⟩ := key
  have k0 : 0 < sz := (row_info hI hn).1
  have kl := hI.live _ _ hn
  refine ⟨hI.defers, ⟨hI.good.len, hI.good.fit, hI.good.kn⟩, ⟨hI.wf.fr, hI.wf.stk, fun d hd => ?_, hI.wf.ln⟩, hI.fm, hI.fms, ?_, fun m c hc => ?_, hI.lens⟩
  · rcases mem_set hd with h | h
    · obtain rfl : d = ⟨c, e, .ext sz⟩ := by simpa using h
      exact hI.wf.hp ⟨c, e, .row sz⟩ (List.mem_of_getElem? hn)
    exact hI.wf.hp d h
  · show St w0 (chs ρ α 0 (s.hp.set n0 (some ⟨c, e, .ext sz⟩))) (osA a s T) (exs w0 ρ α 0 (s.hp.set n0 (some ⟨c, e, .ext sz⟩)) ++ ps) W
    rw [h2]
    have e2 : (some (⟨c, e, .ext sz⟩ : Blk)).bind (fun b => b.ch ρ α (0 + n0)) = none := by simp [Blk.ch]
    rw [e2]
    refine st_ps hst3 fun p hp => ?_
    rcases List.mem_append.1 hp with hp | hp
    · obtain ⟨m, c', hc, he⟩ := exs_mem.1 hp
      rw [Nat.zero_add] at he
      rcases set_cases hc with ⟨rfl, rfl⟩ | ⟨_, h⟩
      · simp only [Blk.ex, Option.some.injEq] at he
        subst he
        exact List.mem_cons_self ..
      exact List.mem_cons_of_mem _ (List.mem_append.2 (.inl (exs_mem.2 ⟨m, c', h, by rw [Nat.zero_add]; exact he⟩)))
    exact List.mem_cons_of_mem _ (List.mem_append.2 (.inr hp))
  rcases set_cases hc with ⟨rfl, rfl⟩ | ⟨_, h⟩
  · exact ⟨kl, k0, A, len, cap, k1, k2, k3, k4⟩
  exact hI.rows m c h
theorem cvV_eq {P : Program} {g : Nat} {op : Op} {vs : List V} {n0 len : Nat} {b : Blk} (h : cvV P g s op vs = some (n0, b, len)) : g = 12 ∧ ∃ t x e, op = .convert t t x ∧ vs = [.sl n0 0 len len] ∧ P.underlying t = some (.slice e) ∧ P.underlying e = some (.int .u8) ∧ s.hp[n0]? = some (some b) ∧ b.k = .cells ∧ b.t = e ∧ b.c.length = len ∧ 0 < len := by
  unfold cvV at h
  split at h
  · rename_i t t' x n len' cap
    split at h
    · rename_i e b' hsl hb
      split at h
      · rename_i hu
        split at h
        · rename_i hc
          obtain ⟨hg, rfl, h1, h2, h3, rfl, h4⟩ := hc
          cases h
          exact ⟨hg, t, x, e, rfl, rfl, slOf_eq hsl, hu, join_some hb, h1, h2, h3, h4⟩
        cases h
      cases h
    cases h
  cases h
theorem _root_.Go.Proofs.YtdamlaegboiokaaDoor.St.mark {w0 : Org} {W W' : World} {l1 l2 : List Ch} {e : Ch} {os : List Ow} {ps : List (World → Prop)} (h : St w0 (l1 ++ e :: l2) os ps W) (hos : W'.os = W.os) (htp : W'.tape = W.tape) (hout : W'.output = W.output) (hsm : Same [e.id] W W') : St w0 (l1 ++ l2) os ps W' := by
  have hmem : e ∈ l1 ++ e :: l2 := by simp
  have hp : (muts (l1 ++ e :: l2) os).Perm (e.id :: muts (l1 ++ l2) os) := by
    unfold muts
    simp only [List.map_append, List.map_cons, List.append_assoc, List.cons_append]
    exact List.perm_middle
  have hnd := List.nodup_cons.1 (hp.nodup_iff.1 h.nodup)
  have hkm : e.id ∈ muts (l1 ++ e :: l2) os := hp.mem_iff.2 (List.mem_cons_self ..)
  have hkl := h.mut_lt hkm
  have hsub : ∀ x ∈ l1 ++ l2, x ∈ l1 ++ e :: l2 := fun x hx => by simp only [List.mem_append, List.mem_cons] at hx ⊢; rcases hx with h | h; exact .inl h; exact .inr (.inr h)
  have hoth : ∀ b, b < W.heap.size → b ≠ e.id → W'.heap[b]? = W.heap[b]? := fun b hb hn => hsm.block b hb (by simpa using hn)
  refine ⟨⟨hos.trans h.old.os, htp.trans h.old.tape, hout.trans h.old.output, Nat.le_trans h.old.size hsm.size, fun b hb hn => ?_⟩, fun x hx => ?_, fun x hx => ?_, hnd.2, fun p hp2 W2 h2 => h.pers p hp2 W2 ?_⟩
  · rw [hoth b (Nat.lt_of_lt_of_le hb h.old.size) (by rintro rfl; rcases hkl.1 with h1 | h1; · omega
                                                      exact hn h1)]
    exact h.old.block b hb hn
  · have h3 := h.blk x (hsub x hx)
    refine ⟨h3.1, (hoth _ (Array.getElem?_eq_some_iff.1 h3.2).1 fun h4 => hnd.1 ?_).trans h3.2⟩
    rw [← h4]
    exact List.mem_append.2 (.inl (List.mem_map.2 ⟨x, hx, rfl⟩))
  · have h3 := h.own x hx
    refine ⟨h3.1, (hoth _ (Array.getElem?_eq_some_iff.1 h3.2).1 fun h4 => hnd.1 ?_).trans h3.2⟩
    rw [← h4]
    exact List.mem_append.2 (.inr (List.mem_flatMap.2 ⟨x, hx, by simp [Ow.blk]⟩))
  refine Same.trans (ids := muts (l1 ++ e :: l2) os) ⟨hsm.size, fun b hb hn => hoth b hb fun e' => hn (e' ▸ hkm)⟩ ⟨h2.size, fun b hb hn => h2.block b hb fun h4 => hn (hp.mem_iff.2 (List.mem_cons_of_mem _ h4))⟩
theorem cv_ok {K : Act → World → Prop} {Q : Exit → Act → World → Prop} {o : Oper} {vs : List V} {n0 len : Nat} {b : Blk} {g : Nat} (hms : w0.ms = []) (hvs : o.op.operands.toList.mapM s.ev = some vs) (h : cvV C.P g s o.op vs = some (n0, b, len)) (hI : InvA w0 ps T ρ s a W α)
    (hw : effWf ((s.lay n0 tomb).room 1) s.hp.length (.row s.hp.length) (some ⟨[.a b.c], 0, .ext 1⟩) none = true) (hf : freeAt ((s.lay n0 tomb).room 1) s.hp.length = true) (hK : ∀ a' W', Inv w0 ps T ρ (((s.lay n0 tomb).room 1).eff s.hp.length o.dst (.row s.hp.length) (some ⟨[.a b.c], 0, .ext 1⟩) none) a' W' → K a' W') : o.wp C.P a W K Q := by
  obtain ⟨_, t, x, e, hop, rfl, ht, he, hn, hk, rfl, hlen, hpos⟩ := cvV_eq h
  have hx := mapM_den hI.good hI.fm hvs
  rw [hop] at hx
  simp [Op.operands, denL, V.den] at hx
  obtain ⟨l1, l2, h1, h2⟩ := chs_split (ρ := ρ) (α := α) (k := 0) hn
  have hch : (some b).bind (fun b => b.ch ρ α (0 + n0)) = some ⟨(α n0).b, (denL ρ α b.c).toArray, b.t⟩ := by simp [Blk.ch, hk]
  have hst := hI.st
  rw [h1, hch] at hst
  have hst : St w0 (l1 ++ ((⟨(α n0).b, (denL ρ α b.c).toArray, b.t⟩ : Ch) :: l2)) (osA a s T) (exs w0 ρ α 0 s.hp ++ ps) W := hst
  have hmem : (⟨(α n0).b, (denL ρ α b.c).toArray, b.t⟩ : Ch) ∈ l1 ++ ((⟨(α n0).b, (denL ρ α b.c).toArray, b.t⟩ : Ch) :: l2) := by simp
  have hat := hst.at_ hmem
  have hge : w0.w.heap.size ≤ (α n0).b := (hst.ge_ hmem).resolve_right (by rw [hms]; simp)
  have hlt := hst.lt_ hmem
  have hsz : (denL ρ α b.c).toArray.size = len := by simp [denL_len, hlen]
  have hrun : (convert t t (.slice (some ⟨(α n0).b, 0, none⟩) len len)).run C.P W = .ok (.slice (some ⟨(α n0).b, 0, none⟩) len len) (W.freeze ⟨(α n0).b, len, none⟩ 1) := by
    have hshp : W.shape? (α n0).b = some (b.t, len) := by unfold World.shape?; rw [hat]; simp [denL_len, hlen]
    simp [convert, run_underlying ht, run_underlying he, markStringish, hshp]
  have hW' : (W.freeze ⟨(α n0).b, len, none⟩ 1).heap = W.heap.modify (α n0).b fun
      | .cells c elem (lo, hi) => .cells c elem (if lo == hi then (len, len + 1) else (min lo len, max hi (len + 1)))
      | o => o := rfl
  have hsm : Same [(α n0).b] W (W.freeze ⟨(α n0).b, len, none⟩ 1) := by
    refine ⟨by rw [hW', Array.size_modify]; exact Nat.le_refl _, fun c hc hn => ?_⟩
    rw [hW', Array.getElem?_modify, if_neg fun h => hn (by simp [h])]
  have hat' : (W.freeze ⟨(α n0).b, len, none⟩ 1).heap[(α n0).b]? = some (.cells (denL ρ α b.c).toArray b.t (len, len + 1)) := by
    rw [hW', Array.getElem?_modify, if_pos rfl, hat]
    rfl
  have hst2 := St.mark hst (W' := W.freeze ⟨(α n0).b, len, none⟩ 1) rfl rfl rfl hsm
  have hA : InvA w0 ps T ρ (s.lay n0 tomb) a (W.freeze ⟨(α n0).b, len, none⟩ 1) α := by
    refine ⟨hI.defers, ⟨hI.good.len, hI.good.fit, hI.good.kn⟩, ⟨hI.wf.fr, hI.wf.stk, fun d hd => ?_, hI.wf.ln⟩, hI.fm, hI.fms, ?_, fun m c hc => ?_, hI.lens⟩
    · rcases mem_set hd with h | h
      · obtain rfl : d = tomb := by simpa using h
        rfl
      exact hI.wf.hp d h
    · show St w0 (chs ρ α 0 (s.hp.set n0 (some tomb))) (osA a s T) (exs w0 ρ α 0 (s.hp.set n0 (some tomb)) ++ ps) _
      rw [h2]
      have e0 : (some tomb).bind (fun b => b.ch ρ α (0 + n0)) = none := by simp [Blk.ch, tomb]
      rw [e0]
      refine st_ps hst2 (app_sub (exs_sub fun m c hc => ?_))
      rcases set_cases hc with ⟨rfl, rfl⟩ | ⟨_, h⟩
      · exact .inl rfl
      exact .inr ⟨c, h, rfl⟩
    rcases set_cases hc with ⟨rfl, rfl⟩ | ⟨_, h⟩
    · exact ⟨hI.live _ _ hn, by simp [Blk.rowOk, tomb]⟩
    exact hI.rows m c h
  have hxs : (⟨[.a b.c], 0, .ext 1⟩ : Blk).xs ρ α = denL ρ α b.c := by simp [Blk.xs, denL, V.den, cellsV]
  have hfin := fin_ext (s := s.lay n0 tomb |>.room 1) (o := o) (K := K) (nm := s.hp.length) (v := .row s.hp.length) (b := ⟨[.a b.c], 0, .ext 1⟩) (sz := 1) (u := .slice (some ⟨(α n0).b, 0, none⟩) len len) (hA.room 1) (freeAt_in hf) rfl hw hK ⟨0, .slice (some ⟨(α n0).b, 0, none⟩) len len, []⟩ (hA.room 1).st (by decide) ⟨_, _, _, rfl, by rw [hxs, denL_len, hlen, Nat.mul_one], Nat.le_refl _, fun _ => rfl⟩ (fun W2 hW2 => ?_) (fun α' h1 _ => by simp only [V.den, h1])
  · unfold Oper.wp execOp
    simp only [hop, hx, Sem.run_bind, Sem.run_pure, Result.andThen_ok, hrun]
    exact hfin
  rw [hxs]
  refine ⟨⟨?_, Nat.le_refl _⟩, .inl fun ad n' c' e' _ => ?_⟩
  · have hR : Rd (W.freeze ⟨(α n0).b, len, none⟩ 1) 1 (some ⟨(α n0).b, 0, none⟩) len (denL ρ α b.c) := by
      refine ⟨by rw [denL_len, hlen, Nat.mul_one], fun _ => ⟨_, rfl, (Array.getElem?_eq_some_iff.1 hat').1, fun j u hu => ?_⟩⟩
      have hadd : (⟨(α n0).b, 0, none⟩ : Addr).add j = ⟨(α n0).b, j, none⟩ := by unfold Addr.add; split <;> simp_all
      rw [hadd]
      unfold World.cell?
      simp only [hat', Option.isSome_none, Bool.false_eq_true, if_false]
      rw [List.getElem?_toArray]
      exact hu
    refine hR.same hW2 fun ad e' hm => ?_
    cases e'
    have hm : (α n0).b ∈ muts (chs ρ α 0 (s.hp.set n0 (some tomb) ++ List.replicate 1 none)) (osA a s T) := hm
    rw [chs_append, h2, show (some tomb).bind (fun b => b.ch ρ α (0 + n0)) = none by simp [Blk.ch, tomb]] at hm
    have hm : (α n0).b ∈ muts (l1 ++ l2) (osA a s T) := hm
    have hp : (muts (l1 ++ ((⟨(α n0).b, (denL ρ α b.c).toArray, b.t⟩ : Ch) :: l2)) (osA a s T)).Perm ((α n0).b :: muts (l1 ++ l2) (osA a s T)) := by
      unfold muts
      simp only [List.map_append, List.map_cons, List.append_assoc, List.cons_append]
      exact List.perm_middle
    exact (List.nodup_cons.1 (hp.nodup_iff.1 hst.nodup)).1 hm
  cases e'
  exact hge
theorem go_ok (hC : C.Ok) (hps : Ctx C w0 ps) {G : Cfg} (hk12 : G.keep = 12 → w0.ms = []) {n lv : Nat} {all : Array Oper} {o : Oper} {rest : List Oper} {k : List It} {J : List (Act → World → Prop)} {L : List (Cx → List Value → Prop)} (hI : Inv w0 ps T ρ s a W) (hwant : Region.wanted o (yielded all a.tmps) = true)
    (hrest : ∀ s' ρ' a' W', VC C w0 ps T0 R L ρ' (run C G n lv s' (.ops all rest :: k)) → ρ <+: ρ' → Inv w0 ps T ρ' s' a' W' → wpLR (rnd k T) C.P all (wpK C.P R k T J) rest a' W')
    (hself : ∀ s' ρ', VC C w0 ps T0 R L ρ' (run C G n lv s' (.ops all (o :: rest) :: k)) → ρ <+: ρ' → Inv w0 ps T ρ' s' a W → wpLR (rnd k T) C.P all (wpK C.P R k T J) (o :: rest) a W)
    (ih : ∀ (lv : Nat) (s : S) (items : List It) (T : List TF) (J : List (Act → World → Prop)) (L : List (Cx → List Value → Prop)) (ρ : List Value) (a : Act) (W : World), VC C w0 ps T0 R L ρ (run C G n lv s items) → L.length = lv → Rel w0 ps T0 L ρ items T J → Inv w0 ps T ρ s a W → wpK C.P R items T J .normal a W)
    (hN : (∀ f, C.cw f = none) → ∀ (N : List Arg) (ps' : List (World → Prop)), RunOk (C.plus N) ps' n) (hL : L.length = lv) (hr : Rel w0 ps T0 L ρ k T J) (hv : VC C w0 ps T0 R L ρ (goT C G n lv s all o rest k)) : wpLR (rnd k T) C.P all (wpK C.P R k T J) (o :: rest) a W := by
  have hleft : (∀ c, o.op ≠ .defer c) → o.wp C.P a W (wpLR (rnd k T) C.P all (wpK C.P R k T J) rest) (wpK C.P R k T J) → wpLR (rnd k T) C.P all (wpK C.P R k T J) (o :: rest) a W := fun hd h => wpLR_cons hwant (operIn_of_wp hd h)
  have hrefl := List.prefix_refl ρ
  unfold goT at hv
  split at hv
  · simp [VC] at hv
  rename_i vs hvs
  split at hv
  · rename_i n0 b len hcv
    split at hv
    · rename_i hw
      simp only [Bool.and_eq_true] at hw
      obtain ⟨α, hA⟩ := hI
      exact hleft (by obtain ⟨_, t, x, e, hop, _⟩ := cvV_eq hcv; rw [hop]; exact fun c h => nomatch h) (cv_ok (hk12 (cvV_eq hcv).1) hvs hcv hA hw.1 hw.2 fun a' W' h => hrest _ ρ a' W' hv hrefl h)
    simp [VC] at hv
  rename_i hnn
  clear hnn
  split at hv
  · rename_i g rw as' sh hnc
    split at hv
    · rename_i hw
      simp only [VC] at hv
      rcases hv with ⟨v, hrel, _⟩ | ⟨hcw, Q, hq, hvv⟩
      · exact (rel_q (hrel fun _ => default)).elim
      obtain ⟨α, hA⟩ := hI
      refine hleft (by obtain ⟨c, f, hop, _⟩ := nCall_eq hnc; rw [hop]; exact fun c h => nomatch h) (callq_ok hC hps hvs hnc hA (hq α) hw fun v N a' W' hfit hQ hI' => ?_)
      exact hN hcw (N ++ C.N) _ w0 T0 R G lv _ (.ops all rest :: k) T J L (ρ ++ [v]) a' W' hk12 (hps.plus _) (by rw [run_plus C]; exact hvv v N hfit hQ) hL ((Rel.mono ⟨[v], rfl⟩ (List.prefix_refl _) (k := k) hr).psm fun p hp => List.mem_cons_of_mem _ (List.mem_cons_of_mem _ hp)) hI'
    simp [VC] at hv
  rename_i hnn
  clear hnn
  split at hv
  · rename_i v wr hpl
    split at hv
    · rename_i hw
      exact hleft (plan_nd hpl nofun) (ef_old hvs hpl hI hw fun a' W' h => hrest _ ρ a' W' hv hrefl h)
    simp [VC] at hv
  · rename_i v b wr hpl
    split at hv
    · rename_i hw
      exact hleft (plan_nd hpl nofun) (ef_new hvs hpl hI hw fun a' W' h => hrest _ ρ a' W' hv hrefl h)
    simp [VC] at hv
  · rename_i q args sh mk wr hpl
    split at hv
    · rename_i hw
      simp only [VC] at hv
      obtain ⟨v, hrel, hfit, hv⟩ := hv.resolve_right fun ⟨_, _, hq, _⟩ => by
        simp only [Bool.and_eq_true] at hw
        first
          | exact relN_no hw.1.2 (hq fun _ => default)
          | exact relN_no hw.1.1.2 (hq fun _ => default)
      obtain ⟨α, hA⟩ := hI
      exact hleft (plan_nd hpl nofun) (df_old hC hps hvs hpl hA (hrel α) hfit hw fun a' W' h => hrest _ (ρ ++ [v]) a' W' hv ⟨[v], rfl⟩ h)
    simp [VC] at hv
  · rename_i q args sh mk b wr hpl
    split at hv
    · rename_i hw
      simp only [VC] at hv
      obtain ⟨v, hrel, hfit, hv⟩ := hv.resolve_right fun ⟨_, _, hq, _⟩ => by
        simp only [Bool.and_eq_true] at hw
        first
          | exact relN_no hw.1.2 (hq fun _ => default)
          | exact relN_no hw.1.1.2 (hq fun _ => default)
      obtain ⟨α, hA⟩ := hI
      exact hleft (plan_nd hpl nofun) (df_new hC hps hvs hpl hA (hrel α) hfit hw fun a' W' h => hrest _ (ρ ++ [v]) a' W' hv ⟨[v], rfl⟩ h)
    simp [VC] at hv
  · rename_i i p hpl
    split at hv
    · rename_i hi
      simp only [VC] at hv
      obtain ⟨b, hb, hbt, hbf⟩ := hv
      cases b
      · exact hself _ ρ (hbf rfl) hrefl (br_inv hI hi hb)
      exact hself _ ρ (hbt rfl) hrefl (br_inv hI hi hb)
    simp [VC] at hv
  · rename_i i p m hpl
    split at hv
    · rename_i hi
      simp only [VC] at hv
      obtain ⟨⟨j, hj, hu⟩, hv⟩ := hv
      have hj' : j < m := by simpa using hj
      have := VCs_at (j := j) hv (t := run C G n lv (s.dec i p (.int .i64 (j : Int))) (.ops all (o :: rest) :: k)) (by simp [hj']) (by rw [hu, Nat.zero_add])
      exact hself _ ρ this hrefl (br_inv hI hi hu)
    simp [VC] at hv
  split at hv
  · rename_i n0 hz
    obtain ⟨h12, b, hn0, hbk⟩ := frzV_eq hz
    obtain ⟨α, hA⟩ := hI
    exact hself _ ρ hv hrefl ⟨α, hA.freeze (hk12 h12) hn0 hbk⟩
  split at hv
  · rename_i c g fs cap args hop _ _
    split at hv
    · rename_i f fn hcal hfn hen
      split at hv
      · rename_i body hbody
        split at hv
        · rename_i hw
          simp only [Bool.and_eq_true, decide_eq_true_eq] at hw hen
          obtain ⟨α, hA⟩ := hI
          have he := mapM_den hA.good hA.fm hvs
          rw [hop] at he
          obtain ⟨cal, ar, at'⟩ := c
          simp only at hcal
          subst hcal
          simp only [Op.operands, Call.operands, denL, V.den] at he
          simp at he
          obtain ⟨h7, h8⟩ := he
          refine hleft (by rw [hop]; intro c h; cases h) (wp_callB hop h7 (vs := (denL ρ α (fs ++ (args ++ cap))).toArray) ?_ (enters_run hen.1 _ _)
            (R := fun v W' => wpLR (rnd k T) C.P all (wpK C.P R k T J) rest (({ tmps := a.tmps, defers := a.defers } : Act).put o.dst v) W') ?_ ?_)
          · exact Array.ext' (by simp [denL_app, h8])
          · refine calls_of_endR hfn hbody ?_
            have hI' : Inv w0 ps (⟨a.tmps, a.defers, none⟩ :: T) ρ { s with fr := (fs ++ (args ++ cap)).map some ++ List.replicate (fn.ntmps - (fs ++ (args ++ cap)).length) (some (.k undef)), stk := s.fr :: s.stk, cur := g }
                { tmps := (denL ρ α (fs ++ (args ++ cap))).toArray ++ Array.replicate (fn.ntmps - (denL ρ α (fs ++ (args ++ cap))).toArray.size) undef, defers := [] } W := by
              refine ⟨α, ⟨nofun, hA.defers⟩, ⟨hA.good.len, hA.good.fit, hA.good.kn⟩, ⟨fun v hv' => ?_, fun f hf => ?_, hA.wf.hp, hA.wf.ln⟩, ⟨by simp [denL_len]; omega, fun d v hd => ?_⟩, ⟨hA.fm, hA.fms⟩, hA.st, hA.rows, hA.lens⟩
              · rcases List.mem_append.1 hv' with h | h
                · obtain ⟨u, hu, e⟩ := List.mem_map.1 h
                  obtain rfl : u = v := by simpa using e
                  rw [← hA.good.len]
                  exact wfL_mem hw.2 u hu
                · have := List.eq_of_mem_replicate h
                  cases this
                  rfl
              · rcases List.mem_cons.1 hf with rfl | hf
                · exact hA.wf.fr
                exact hA.wf.stk f hf
              rw [Array.getElem?_append]
              simp only [List.size_toArray, denL_len]
              by_cases hlt : d < (fs ++ (args ++ cap)).length
              · rw [List.getElem?_append_left (by simpa using hlt), List.getElem?_map, List.getElem?_eq_getElem hlt] at hd
                simp only [Option.map_some, Option.some.injEq] at hd
                rw [if_pos hlt]
                simpa using denL_at (ρ := ρ) (α := α) (by rw [List.getElem?_eq_getElem hlt, hd])
              rw [List.getElem?_append_right (by simpa using hlt), List.getElem?_replicate] at hd
              rw [if_neg hlt, Array.getElem?_replicate]
              simp only [List.length_map] at hd
              split at hd
              · rename_i h9
                rw [if_pos h9]
                cases hd
                rfl
              cases hd
            have := ih lv _ (.code body :: .back fn s.cur o.dst all rest :: k) (⟨a.tmps, a.defers, none⟩ :: T) J L ρ _ W hv hL ⟨rfl, hr⟩ hI'
            exact this
          intro v W' h
          exact h
        simp [VC] at hv
      simp [VC] at hv
    simp [VC] at hv
  · -- a round
    rename_i c m args hop _ _
    split at hv
    · rename_i f m' lps' fr stk' cur ps' assign body hcal hlps hstk hend
      split at hv
      · rename_i hw
        obtain ⟨rfl, hw2, hw3⟩ := hw
        obtain ⟨α, hA⟩ := hI
        obtain ⟨hrn, c0, T', l, r, rfl, hlp, hp1, hp2, hp3⟩ := endl_ok hend hr
        have hLps := hA.defers.2
        rw [hlps] at hLps
        obtain ⟨hm0, ⟨q1, q2, q3, q4, q5⟩, hLt⟩ := (Lps_some hlp).1 hLps
        have hst := hA.st
        have hos : osA a s (c0 :: T') = markOs a.defers ++ (⟨l, .loop r⟩ :: ⟨r.defers, .deferred (some [])⟩ :: (markOs c0.ds ++ loopOs lps' T')) := by
          unfold osA
          rw [hlps, loopOs_some hlp]
          simp only [LS.st, LS.pe, rec_ready q3 q4]
        have hl : W.heap[l]? = some (.loop r) := (hst.own ⟨l, .loop r⟩ (by rw [hos]; simp)).2
        have he := mapM_den hA.good hA.fm hvs
        rw [hop] at he
        obtain ⟨cal, ar, at'⟩ := c
        simp only at hcal
        subst hcal
        simp only [Op.operands, Call.operands, denL, V.den] at he
        simp at he
        obtain ⟨h7, h8⟩ := he
        have hfms := hA.fms
        rw [hstk] at hfms
        have hwstk := hA.wf.stk
        rw [hstk] at hwstk
        refine wpLR_cons hwant (wpR_yield (l := l) (r := r) (vs := (denL ρ α args).toArray) hop (by rw [h7, q2]) ?_ hl (by simp [denL_len, hw2, hp1]) q3 ?_)
        · exact Array.ext' (by simp [h8])
        have hI' : Inv w0 ps (⟨a.tmps, a.defers, none⟩ :: c0 :: T') ρ { s with fr := roundF fr ps' args, stk := s.fr :: s.stk, cur := cur } { tmps := roundT r (denL ρ α args).toArray, defers := [] } W := by
          refine ⟨α, ⟨nofun, hA.defers⟩, ⟨hA.good.len, hA.good.fit, hA.good.kn⟩, ⟨?_, fun f hf => ?_, hA.wf.hp, hA.wf.ln⟩, ?_, ⟨hA.fm, hA.fms⟩, hA.st, hA.rows, hA.lens⟩
          · rw [← hA.good.len]
            exact roundF_wf _ _ _ (by rw [hA.good.len]; exact hwstk fr (List.mem_cons_self ..)) hw3
          · rcases List.mem_cons.1 hf with rfl | hf
            · exact hA.wf.fr
            exact hA.wf.stk f hf
          rw [roundT_eq, q5, hp1]
          exact roundF_ok args _ _ _ _ hfms.1
        have h := ih lv _ (.code assign :: .beginR :: .code body :: .endR s.cur o.dst all rest :: k) (⟨a.tmps, a.defers, none⟩ :: c0 :: T') J L ρ _ W hv hL ⟨⟨_, _, rfl, rfl, by simp [lpOf, hlp]⟩, rfl, by simp [lpOf, hlp], hr⟩ hI'
        have hrd : rnd (.endR s.cur o.dst all rest :: k) (⟨a.tmps, a.defers, none⟩ :: c0 :: T') = some l := by simp [rnd, hlp]
        have h : wpR (rnd (.endR s.cur o.dst all rest :: k) (⟨a.tmps, a.defers, none⟩ :: c0 :: T')) C.P assign (wpK C.P R (.beginR :: .code body :: .endR s.cur o.dst all rest :: k) (⟨a.tmps, a.defers, none⟩ :: c0 :: T') J) { tmps := roundT r (denL ρ α args).toArray, defers := [] } W := h
        rw [hrd] at h
        subst hp2
        subst hp3
        refine wpR_mono h fun e a1 W1 hq => ?_
        cases e with
        | normal =>
          obtain ⟨l', r', e1, e2, e3⟩ := hq
          have e1 : c0.lp = some (l', r') := e1
          rw [hlp] at e1
          cases e1
          refine ⟨e2, ?_⟩
          have e3 : wpR (rnd (.endR s.cur o.dst all rest :: k) (⟨a.tmps, a.defers, none⟩ :: c0 :: T')) C.P r.body (wpK C.P R (.endR s.cur o.dst all rest :: k) (⟨a.tmps, a.defers, none⟩ :: c0 :: T') J) a1 (W1.putObj l (.loop { r with state := .busy })) := e3
          rw [hrd] at e3
          refine wpR_mono e3 fun e2 a2 W2 hq2 => ?_
          obtain ⟨l', r', e1, e2⟩ := hq2
          have e1 : c0.lp = some (l', r') := e1
          rw [hlp] at e1
          cases e1
          exact e2
        | exit id => exact hq
        | ret => exact hq
        | goto t => exact hq
        | panic c => exact hq
        | outgrown => exact hq
      simp [VC] at hv
    simp [VC] at hv
  simp [VC] at hv
theorem run_zero : RunOk C ps 0 := by
  intro w0 T0 R G lv s items T J L ρ a W hk12 hps hv
  simp [run, VC] at hv
theorem Inv.sub {ps' : List (World → Prop)} (hI : Inv w0 ps' T ρ s a W) (h : ∀ p ∈ ps, p ∈ ps') : Inv w0 ps T ρ s a W := let ⟨α, hA⟩ := hI; ⟨α, hA.more fun p hp => .inl (h p hp)⟩
theorem run_step (hC : C.Ok) {n : Nat} (ih0 : RunOk C ps n) (hN : (∀ f, C.cw f = none) → ∀ (N : List Arg) (ps' : List (World → Prop)), RunOk (C.plus N) ps' n) : RunOk C ps (n + 1) := by
  intro w0 T0 R G lv s items T J L ρ a W hk12 hps hv hL hr hI
  have ih := fun lv s items T J L ρ a W => ih0 w0 T0 R G lv s items T J L ρ a W hk12 hps
  unfold run at hv
  split at hv
  · simp [VC] at hv
  · -- top
    rename_i fn k
    split at hv
    · rename_i v hres
      split at hv
      · rename_i hwf
        simp only [VC] at hv
        obtain ⟨α, hA⟩ := hI
        obtain ⟨W2, htk, hA⟩ := hA.take
        refine ⟨W2, v.den ρ α, htk, res_ok hA hres, hv α W2 (by have := hA.fms; rwa [show T = T0 from hr] at this) ?_ ?_⟩
        · unfold keptH
          split
          · exact fun m b h => nomatch h
          · exact fun m b h => (hA.rows m b h).2
          exact fun m b h => (hA.rows m b (keepH_at h).1).2
        unfold keptH
        split
        · exact hA.st.weak (List.nil_sublist _) (List.nil_sublist _) fun p h => List.mem_append.2 (.inr (by simpa [exs] using h))
        · exact hA.st.weak (.refl _) (List.nil_sublist _) fun p h => h
        exact hA.st.weak (chs_sub fun m b h => ⟨b, (keepH_at h).1, rfl, rfl, rfl⟩) (List.nil_sublist _) (app_sub (exs_sub fun m b h => .inr ⟨b, (keepH_at h).1, rfl⟩))
      simp [VC] at hv
    simp [VC] at hv
  · -- back
    rename_i fn cur dst all rest k
    split at hv
    · rename_i v fr stk hres hstk
      split at hv
      · rename_i hwf
        obtain ⟨α, hA⟩ := hI
        cases T with
        | nil => exact hr.elim
        | cons t T =>
          obtain ⟨W2, htk, hA⟩ := hA.take
          refine ⟨W2, v.den ρ α, htk, res_ok hA hres, v.den ρ α, rfl, ?_⟩
          have hfm := hA.fms
          rw [hstk] at hfm
          have hI' : Inv w0 ps T ρ (({ s with fr := fr, stk := stk, cur := cur } : S).put dst v) (({ tmps := t.t, defers := t.ds } : Act).put dst (v.den ρ α)) W2 := by
            refine ⟨α, InvA.put (s := { s with fr := fr, stk := stk, cur := cur }) ⟨(Lps_none hr.1).1 hA.defers.2, ⟨hA.good.len, hA.good.fit, hA.good.kn⟩, ⟨hA.wf.stk fr (by rw [hstk]; exact List.mem_cons_self ..), fun f hf => hA.wf.stk f (by rw [hstk]; exact List.mem_cons_of_mem _ hf), hA.wf.hp, hA.wf.ln⟩, hfm.1, hfm.2, by have := hA.st; unfold osA at this ⊢; rwa [loopOs_none hr.1] at this, hA.rows, hA.lens⟩ dst (by rw [← hA.good.len]; exact hwf)⟩
          exact ih lv _ (.ops all rest :: k) T J L ρ _ W2 hv hL hr.2 hI'
      simp [VC] at hv
    simp [VC] at hv
  · -- again
    rename_i l an ws s0 k
    refine settle_ok hps an.pos s ρ _ hv hI fun s ρ' hv hρ hI => ?_
    split at hv
    · rename_i vals hvals
      split at hv
      · rename_i hc
        simp only [Bool.and_eq_true, beq_iff_eq, decide_eq_true_eq] at hc
        obtain ⟨⟨⟨⟨⟨⟨⟨h1, h2⟩, h3⟩, h3l⟩, h4⟩, h5⟩, h6⟩, h7⟩ := hc
        simp only [VC] at hv
        obtain ⟨α, hA⟩ := hI
        cases J with
        | nil => exact hr.elim
        | cons j J =>
          obtain ⟨⟨ρ0, A, ps0, hp0, hA1, hp, hg, hw, hlive, hlpl, hj⟩, _⟩ := hr
          have hvv := hv α
          rw [List.getD_eq_getElem?_getD, hA1] at hvv
          have hM : Match an ws s0 s := by
            obtain ⟨q1, q2⟩ := eqbFr_le h1
            refine ⟨⟨q1, fun d v hd1 hv' => q2 d v (by rw [Nat.zero_add]; exact hd1) hv'⟩, eqbS_le h2, fun m b hb hnd => ?_, fun m b hb => eqbH_same h3l hb, hlive, h7, hlpl⟩
            have := eqbH_le h3 m b hb (by rw [Nat.zero_add]; exact hnd)
            simpa using this
          obtain ⟨hf, hfit⟩ := fresh_inv hA (hp.trans hρ) hg hw hM hvals h5
          exact hj C ps _ a W hps hp0 hvv hfit hf
      simp [VC] at hv
    simp [VC] at hv
  · -- a round begins
    rename_i k
    split at hv
    · rename_i m lps' hlps
      obtain ⟨⟨it, T1, rfl, hit, hl1⟩, hr⟩ := hr
      obtain ⟨c, T', l, r, rfl, hlp⟩ := lpOf_some hl1
      obtain ⟨α, hA⟩ := hI
      have hLps := hA.defers.2
      rw [hlps, Lps_none hit, Lps_some hlp] at hLps
      obtain ⟨hmi, hmc, ⟨q1, q2, q3, q4, q5⟩, hLt⟩ := hLps
      have hst := hA.st
      unfold osA at hst
      rw [hlps, loopOs_none hit, loopOs_some hlp, ← List.append_assoc] at hst
      simp only [LS.st, LS.pe, rec_ready q3 q4] at hst
      have hl : W.heap[l]? = some (.loop r) := (hst.own ⟨l, .loop r⟩ (by simp)).2
      refine ⟨l, r, hlp, hl, ?_⟩
      refine ih lv _ k (it :: c :: T') J L ρ a (W.putObj l (.loop { r with state := .busy })) hv hL hr ⟨α, ⟨hA.defers.1, (Lps_none hit).2 ⟨hmi, (Lps_some hlp).2 ⟨hmc, ⟨q1, q2, q3, q4, q5⟩, hLt⟩⟩⟩, ⟨hA.good.len, hA.good.fit, hA.good.kn⟩, ⟨hA.wf.fr, hA.wf.stk, hA.wf.hp, hA.wf.ln⟩, hA.fm, hA.fms, ?_, hA.rows, hA.lens⟩
      unfold osA
      rw [loopOs_none hit, loopOs_some hlp, ← List.append_assoc]
      simp only [LS.st, LS.pe, rec_busy q4]
      exact St.put_ hst
    simp [VC] at hv
  · -- a round ends
    rename_i cur dst all rest k
    split at hv
    · rename_i m lps' fr stk hlps hstk
      cases T with
      | nil => exact hr.elim
      | cons it T1 =>
        obtain ⟨hit, hl1, hr⟩ := hr
        obtain ⟨c, T', l, r, rfl, hlp⟩ := lpOf_some hl1
        obtain ⟨α, hA⟩ := hI
        have hLps := hA.defers.2
        rw [hlps, Lps_none hit, Lps_some hlp] at hLps
        obtain ⟨hmi, hmc, ⟨q1, q2, q3, q4, q5⟩, hLt⟩ := hLps
        have hst := hA.st.weak (os' := loopOs s.lps (it :: c :: T')) (.refl _) (List.sublist_append_right _ _) fun _ h => h
        rw [hlps, loopOs_none hit, loopOs_some hlp] at hst
        simp only [LS.st, LS.pe, rec_busy q4] at hst
        have hl : W.heap[l]? = some (.loop { r with state := .busy }) := (hst.own ⟨l, .loop { r with state := .busy }⟩ (by simp)).2
        have hfm := hA.fms
        rw [hstk] at hfm
        refine ⟨l, r, hlp, hl, ?_⟩
        have hI' : Inv w0 ps (c :: T') ρ (({ s with fr := fr, stk := stk, lps := (m, .ready) :: lps', cur := cur } : S).put dst (.k (.bool true))) (({ tmps := it.t, defers := it.ds } : Act).put dst (.bool true)) (W.putObj l (.loop { r with state := .ready, pending := none })) := by
          refine ⟨α, InvA.put_any (s := { s with fr := fr, stk := stk, lps := (m, .ready) :: lps', cur := cur }) (v := .k (.bool true)) ⟨⟨hmi, (Lps_some hlp).2 ⟨hmc, ⟨q1, q2, q3, q4, q5⟩, hLt⟩⟩, ⟨hA.good.len, hA.good.fit, hA.good.kn⟩, ⟨hA.wf.stk fr (by rw [hstk]; exact List.mem_cons_self ..), fun f hf => hA.wf.stk f (by rw [hstk]; exact List.mem_cons_of_mem _ hf), hA.wf.hp, hA.wf.ln⟩, hfm.1, hfm.2, ?_, hA.rows, hA.lens⟩ dst rfl rfl⟩
          unfold osA
          rw [loopOs_some hlp]
          simp only [LS.st, LS.pe]
          exact St.put_ hst
        exact ih lv _ (.ops all rest :: k) (c :: T') J L ρ _ _ hv hL hr hI'
    simp [VC] at hv
  · -- a round is left
    rename_i j cur dst all rest k
    split at hv
    · rename_i m lps' fr stk hlps hstk
      split at hv
      · rename_i hpe
        cases T with
        | nil => exact hr.elim
        | cons it T1 =>
          obtain ⟨hit, hl1, hr⟩ : it.lp = none ∧ (lpOf T1).isSome = true ∧ Rel w0 ps T0 L ρ k T1 J := hr
          obtain ⟨c, T', l, r, rfl, hlp⟩ := lpOf_some hl1
          obtain ⟨α, hA⟩ := hI
          have hLps := hA.defers.2
          rw [hlps, Lps_none hit, Lps_some hlp] at hLps
          obtain ⟨hmi, hmc, ⟨q1, q2, q3, q4, q5⟩, hLt⟩ := hLps
          have hst := hA.st.weak (os' := loopOs s.lps (it :: c :: T')) (.refl _) (List.sublist_append_right _ _) fun _ h => h
          rw [hlps, loopOs_none hit, loopOs_some hlp] at hst
          simp only [LS.st, LS.pe, rec_busy q4] at hst
          have hl : W.heap[l]? = some (.loop { r with state := .busy }) := (hst.own ⟨l, .loop { r with state := .busy }⟩ (by simp)).2
          have hfm := hA.fms
          rw [hstk] at hfm
          have hI' : ∀ W2, W2 = W.putObj l (.loop { r with state := j.st, pending := j.pe }) → Inv w0 ps (c :: T') ρ (({ s with fr := fr, stk := stk, lps := (m, j) :: lps', cur := cur } : S).put dst (.k (.bool false))) (({ tmps := it.t, defers := it.ds } : Act).put dst (.bool false)) W2 := by
            rintro W2 rfl
            refine ⟨α, InvA.put_any (s := { s with fr := fr, stk := stk, lps := (m, j) :: lps', cur := cur }) (v := .k (.bool false)) ⟨⟨hmi, (Lps_some hlp).2 ⟨hmc, ⟨q1, q2, q3, q4, q5⟩, hLt⟩⟩, ⟨hA.good.len, hA.good.fit, hA.good.kn⟩, ⟨hA.wf.stk fr (by rw [hstk]; exact List.mem_cons_self ..), fun f hf => hA.wf.stk f (by rw [hstk]; exact List.mem_cons_of_mem _ hf), hA.wf.hp, hA.wf.ln⟩, hfm.1, hfm.2, ?_, hA.rows, hA.lens⟩ dst rfl rfl⟩
            unfold osA
            rw [loopOs_some hlp]
            exact St.put_ hst
          have hgo := fun W2 h => ih lv _ (.ops all rest :: k) (c :: T') J L ρ _ W2 hv hL hr (hI' W2 h)
          cases j with
          | ready => simp [LS.pe] at hpe
          | busy => simp [LS.pe] at hpe
          | ret => exact ⟨.ret, rfl, l, r, hlp, hl, hgo _ rfl⟩
          | exit id => exact ⟨.exit id, rfl, l, r, hlp, hl, hgo _ rfl⟩
      simp [VC] at hv
    simp [VC] at hv
  · simp [VC] at hv
  · -- an iterator's end
    rename_i fn cur ps' assign body k
    split at hv
    · rename_i v m q lps' fr stk hres hlps hstk
      split at hv
      · simp [VC] at hv
      rename_i hq
      cases T with
      | nil => exact hr.elim
      | cons c T' =>
        obtain ⟨⟨l, r, hlp, hp1, hp2, hp3⟩, hrn, hr⟩ := hr
        obtain ⟨α, hA⟩ := hI
        obtain ⟨W2, htk, hA⟩ := hA.take
        have hLps := hA.defers.2
        rw [hlps, Lps_some hlp] at hLps
        obtain ⟨hmc, ⟨q1, q2, q3, q4, q5⟩, hLt⟩ := hLps
        have hst : St w0 (chs ρ α 0 s.hp) (loopOs s.lps (c :: T')) _ W2 := hA.st
        rw [hlps, loopOs_some hlp] at hst
        have hl : W2.heap[l]? = some (.loop { r with state := q.st, pending := q.pe }) := (hst.own ⟨l, .loop { r with state := q.st, pending := q.pe }⟩ (by simp)).2
        have hfm := hA.fms
        rw [hstk] at hfm
        refine ⟨W2, v.den ρ α, htk, res_ok hA hres, l, r, v.den ρ α, q.st, q.pe, hlp, rfl, by cases q <;> simp [LS.st] at hq ⊢, hl, ?_⟩
        have hI' : Inv w0 ps T' ρ { s with fr := fr, stk := stk, lps := lps', cur := cur } (markA r.defers { tmps := c.t, defers := c.ds }) (W2.putObj l (.loop { r with state := .exhausted, pending := q.pe })) := by
          refine ⟨α, ⟨fun d hd => ?_, hLt⟩, ⟨hA.good.len, hA.good.fit, hA.good.kn⟩, ⟨hA.wf.stk fr (by rw [hstk]; exact List.mem_cons_self ..), fun f hf => hA.wf.stk f (by rw [hstk]; exact List.mem_cons_of_mem _ hf), hA.wf.hp, hA.wf.ln⟩, hfm.1, hfm.2, ?_, hA.rows, hA.lens⟩
          · rcases List.mem_cons.1 hd with rfl | hd
            · exact ⟨_, rfl⟩
            exact hmc d hd
          exact (St.put_ (a := []) hst).drop_
        cases hpe : q.pe with
        | none =>
          simp only [hpe] at hv hI' ⊢
          exact ih lv _ k T' J L ρ _ _ hv hL hr hI'
        | some co =>
          simp only [hpe] at hv hI' ⊢
          have := ih lv _ (.code co :: k) T' J L ρ _ _ hv hL hr hI'
          have this : wpR (rnd k T') C.P co (wpK C.P R k T' J) _ _ := this
          rw [hrn] at this
          exact this
    simp [VC] at hv
  · -- inBlock
    rename_i id k
    exact ih lv s k T J L ρ a W hv hL hr hI
  · -- rounds
    rename_i c m k
    cases m with
    | zero => simp [VC] at hv
    | succ m => exact ih lv s (.code c :: .rounds c m :: k) T J L ρ a W hv hL hr hI
  · -- code
    rename_i c k
    split at hv
    · exact wpR_skip (ih lv s k T J L ρ a W hv hL hr hI)
    · exact wpR_label (ih lv s k T J L ρ a W hv hL hr hI)
    · rename_i x y
      have := ih lv s (.code x :: .code y :: k) T J L ρ a W hv hL hr hI
      exact wpR_seq this
    · rename_i id c
      exact wpR_block (ih lv s (.code c :: .inBlock id :: k) T J L ρ a W hv hL hr hI)
    · -- cond
      rename_i x c1 c2
      obtain ⟨α, hA⟩ := hI
      split at hv
      · rename_i hx
        exact wpR_cond_true (ev_den hA.good hA.fm hx) (ih lv s (.code c1 :: k) T J L ρ a W hv hL hr ⟨α, hA⟩)
      · rename_i hx
        exact wpR_cond_false (ev_den hA.good hA.fm hx) (ih lv s (.code c2 :: k) T J L ρ a W hv hL hr ⟨α, hA⟩)
      · rename_i i p hx
        split at hv
        · rename_i hi
          simp only [VC] at hv
          obtain ⟨b, hb, hbt, hbf⟩ := hv
          have hx' : a.eval x = .bool b := (ev_den hA.good hA.fm hx).trans hb
          cases b
          · exact wpR_cond_false hx' (ih lv _ (.code c2 :: k) T J L ρ a W (cutT_vc (hbf rfl)) hL hr (br_inv ⟨α, hA⟩ hi hb))
          exact wpR_cond_true hx' (ih lv _ (.code c1 :: k) T J L ρ a W (cutT_vc (hbt rfl)) hL hr (br_inv ⟨α, hA⟩ hi hb))
        simp [VC] at hv
      simp [VC] at hv
    · -- exit
      rename_i id
      split at hv
      · rename_i k' hk
        obtain ⟨J', h1, h2⟩ := unwind_ok (P := C.P) (R := R) hk hr
        exact wpR_exit (h2 a W (ih lv s k' T J' L ρ a W hv hL h1 hI))
      rename_i hun
      split at hv
      · rename_i k' hk
        obtain ⟨J', h1, h2⟩ := leave_exit (P := C.P) (R := R) hk hun hr
        obtain ⟨e, he, h3⟩ := ih lv s (.jump (.exit id) :: k') T J' L ρ a W hv hL h1 hI
        cases he
        exact wpR_exit (h2 a W h3)
      simp [VC] at hv
    · -- ret
      split at hv
      · rename_i k' hk
        obtain ⟨J', h1, h2⟩ := ret_ok (P := C.P) (R := R) hk hr
        exact wpR_ret (h2 a W (ih lv s k' T J' L ρ a W hv hL h1 hI))
      split at hv
      · rename_i k' hk
        obtain ⟨J', h1, h2⟩ := leave_ret (P := C.P) (R := R) hk hr
        obtain ⟨e, he, h3⟩ := ih lv s (.jump .ret :: k') T J' L ρ a W hv hL h1 hI
        cases he
        exact wpR_ret (h2 a W h3)
      simp [VC] at hv
    · -- a range over a function
      rename_i g ps' assign body
      split at hv
      · rename_i gf cap hg hpl
        split at hv
        · rename_i fn hfn hen
          split at hv
          · rename_i c hbody
            split at hv
            · rename_i hw
              simp only [Bool.and_eq_true, decide_eq_true_eq] at hw hen
              obtain ⟨⟨hw1, hw2⟩, hw3⟩ := hw
              obtain ⟨α, hA⟩ := hI
              have hge := ev_den hA.good hA.fm hg
              have hrn := rnd_plain (T := T) hpl
              show wpR (rnd k T) C.P _ _ a W
              rw [hrn]
              refine wpR_range (gf := gf) (lb := (denL ρ α cap).toArray) (by rw [hge]; simp [V.den, denL]) (fun args w => enters_run hen.1 _ _) ?_
              intro r q3 q4 q5 q6 q7 q8 q9
              refine calls_of_endR hfn hbody ?_
              have hfree := freeAt_in hw3
              obtain ⟨α', h1, h2, hB⟩ := (hA.room 1).new' (nm := s.hp.length) (b := tomb) hfree rfl (W' := W) ⟨W.heap.size + 1, undef, []⟩ fun α' g1 g2 g3 g4 => ⟨by rw [chs_new0 (k := 0) hfree.1 rfl, g4]; exact (hA.room 1).st, trivial⟩
              have hden : denL ρ α' cap = denL ρ α cap := denL_eq (hp := s.ln) (fun n hn => h2 n (lv_app hn)) (List.prefix_refl _) cap (by rw [← hA.good.len]; exact hw2)
              have hlvn : SX.lv ((s.room 1).ln.set s.hp.length (some tomb)) s.hp.length = true := lv_made hfree
              have hmono : ∀ n, SX.lv s.ln n = true → SX.lv ((s.room 1).ln.set s.hp.length (some tomb)) n = true := fun n hn => lv_set (lv_app hn)
              have hI' : Inv w0 ps (⟨a.tmps, a.defers, some (W.heap.size + 1, r)⟩ :: T) ρ { (s.room 1).make s.hp.length tomb with fr := (.y s.hp.length :: cap).map some ++ List.replicate (fn.ntmps - (.y s.hp.length :: cap : List V).length) (some (.k undef)), stk := s.fr :: s.stk, lps := (s.hp.length, .ready) :: s.lps, cur := gf }
                  { tmps := (#[Value.func (.yield (W.heap.size + 1)) #[] #[]] ++ (denL ρ α cap).toArray) ++ Array.replicate (fn.ntmps - (#[Value.func (.yield (W.heap.size + 1)) #[] #[]] ++ (denL ρ α cap).toArray).size) undef, defers := [] } (rangeW W r) := by
                refine ⟨α', ⟨nofun, (Lps_some (c := ⟨a.tmps, a.defers, some (W.heap.size + 1, r)⟩) rfl).2 ⟨hA.defers.1, ⟨hlvn, by rw [h1], q3, q4, q5⟩, hB.defers.2⟩⟩, ⟨hA.good.len, hA.good.fit, hA.good.kn⟩, ⟨fun v hv' => ?_, fun f hf => ?_, hB.wf.hp, hB.wf.ln⟩, ⟨by simp [denL_len]; omega, fun d v hd => ?_⟩, ⟨hB.fm, hB.fms⟩, ?_, hB.rows, hB.lens⟩
                · rcases List.mem_append.1 hv' with h | h
                  · obtain ⟨u, hu, e⟩ := List.mem_map.1 h
                    obtain rfl : u = v := by simpa using e
                    rcases List.mem_cons.1 hu with rfl | hu
                    · exact hlvn
                    exact V.wf_mono hmono (Nat.le_of_eq hA.good.len) u (wfL_mem hw2 u hu)
                  · have := List.eq_of_mem_replicate h
                    cases this
                    rfl
                · rcases List.mem_cons.1 hf with rfl | hf
                  · exact hB.wf.fr
                  exact hB.wf.stk f hf
                · rw [Array.getElem?_append]
                  have hl1 : (#[Value.func (.yield (W.heap.size + 1)) #[] #[]] ++ (denL ρ α cap).toArray).size = (V.y s.hp.length :: cap).length := by simp [denL_len, Nat.add_comm]
                  rw [hl1]
                  by_cases hlt : d < (V.y s.hp.length :: cap).length
                  · rw [List.getElem?_append_left (by simpa using hlt), List.getElem?_map, List.getElem?_eq_getElem hlt] at hd
                    simp only [Option.map_some, Option.some.injEq] at hd
                    rw [if_pos hlt]
                    have e2 : (#[Value.func (.yield (W.heap.size + 1)) #[] #[]] ++ (denL ρ α cap).toArray) = (denL ρ α' (.y s.hp.length :: cap)).toArray := by
                      apply Array.ext'
                      simp [denL, V.den, h1, hden]
                    rw [e2]
                    simpa using denL_at (ρ := ρ) (α := α') (l := .y s.hp.length :: cap) (by rw [List.getElem?_eq_getElem hlt, hd])
                  rw [List.getElem?_append_right (by simpa using hlt), List.getElem?_replicate] at hd
                  rw [if_neg hlt, Array.getElem?_replicate]
                  simp only [List.length_map] at hd
                  split at hd
                  · rename_i h9
                    rw [if_pos h9]
                    cases hd
                    rfl
                  cases hd
                have hst := (hB.st.rec_ (.deferred (some []))).rec_ (.loop r)
                have e3 : osA { tmps := (#[Value.func (.yield (W.heap.size + 1)) #[] #[]] ++ (denL ρ α cap).toArray) ++ Array.replicate (fn.ntmps - (#[Value.func (.yield (W.heap.size + 1)) #[] #[]] ++ (denL ρ α cap).toArray).size) undef, defers := [] } { (s.room 1).make s.hp.length tomb with fr := (.y s.hp.length :: cap).map some ++ List.replicate (fn.ntmps - (.y s.hp.length :: cap : List V).length) (some (.k undef)), stk := s.fr :: s.stk, lps := (s.hp.length, .ready) :: s.lps, cur := gf } (⟨a.tmps, a.defers, some (W.heap.size + 1, r)⟩ :: T) = ⟨W.heap.size + 1, .loop r⟩ :: ⟨W.heap.size, .deferred (some [])⟩ :: osA a s T := by
                  unfold osA
                  rw [loopOs_some rfl]
                  simp only [LS.st, LS.pe]
                  rw [rec_ready q3 q4, q9]
                  rfl
                rw [e3]
                have e4 : (W.alloc (.deferred (some []))).heap.size = W.heap.size + 1 := by simp
                rw [e4] at hst
                exact hst
              have h := ih lv _ (.code c :: .endl fn s.cur ps' assign body :: k) (⟨a.tmps, a.defers, some (W.heap.size + 1, r)⟩ :: T) J L ρ _ _ hv hL ⟨⟨_, _, rfl, q6, q7, q8⟩, hrn, hr⟩ hI'
              have h : wpR none C.P c (wpK C.P R (.endl fn s.cur ps' assign body :: k) (⟨a.tmps, a.defers, some (W.heap.size + 1, r)⟩ :: T) J) _ _ := h
              have e5 : markA r.defers { tmps := (TF.mk a.tmps a.defers (some (W.heap.size + 1, r))).t, defers := (TF.mk a.tmps a.defers (some (W.heap.size + 1, r))).ds } = markA W.heap.size a := by rw [q9]
              refine wpR_mono h fun e a' w' hq => ?_
              cases e with
              | normal =>
                obtain ⟨w2, v, t1, t2, l, r', v', st, pe, t3, t4, t5, t6, t7⟩ := hq
                cases t3
                rw [e5] at t7
                exact ⟨w2, v, t1, t2, v', st, pe, t4, t5, t6, t7⟩
              | ret =>
                obtain ⟨w2, v, t1, t2, l, r', v', st, pe, t3, t4, t5, t6, t7⟩ := hq
                cases t3
                rw [e5] at t7
                exact ⟨w2, v, t1, t2, v', st, pe, t4, t5, t6, t7⟩
              | exit id => exact hq
              | goto t => exact hq
              | panic c => exact hq
              | outgrown => exact hq
            simp [VC] at hv
          simp [VC] at hv
        simp [VC] at hv
      simp [VC] at hv
    · -- loop
      rename_i c
      split at hv
      · exact wpR_loop_rounds _ (ih lv s (.rounds c G.rounds :: k) T J L ρ a W hv hL hr hI)
      rename_i an _
      refine settle_ok hps an.pos s ρ _ hv hI fun s ρ' hv hρ hI => ?_
      replace hr := hr.mono hρ (List.prefix_refl L)
      clear hρ
      split at hv
      · rename_i vals hvals
        split at hv
        · rename_i hc
          simp only [Bool.and_eq_true] at hc
          simp only [VC] at hv
          obtain ⟨α, hA⟩ := hI
          obtain ⟨hf, hfit⟩ := fresh_inv (an := an) (ws := written c) hA (List.prefix_refl _) hA.good hA.wf (Match.refl _ _ _ hA.live hA.defers.2.ok) hvals hc.2
          rcases hv with ⟨I, μ, h0, hround⟩ | ⟨hcw, I, μ, h0, hround⟩
          · refine wpR_loop_ghost (γ := List Value) (fun xs a W => I xs ∧ Sh.fitL (an.pos.map fun e => e.2.sh) xs = true ∧ Inv w0 ps T (ρ' ++ xs) (freshS an (written c) s) a W) μ (denL ρ' α vals) ⟨h0 α, hfit, hf⟩ ?_
            intro xs a' W' ⟨hIx, hfx, hInv⟩
            exact ih (lv + 1) (freshS an (written c) s) (.code c :: .again lv an (written c) s :: k) T
              ((fun a' w' => ∃ g', (I g' ∧ Sh.fitL (an.pos.map fun e => e.2.sh) g' = true ∧ Inv w0 ps T (ρ' ++ g') (freshS an (written c) s) a' w') ∧ μ g' < μ xs) :: J)
              (L ++ [fun (_ : Cx) (ys : List Value) => I ys ∧ μ ys < μ xs]) (ρ' ++ xs) a' W' (hround xs hfx hIx) (by simp [hL])
              ⟨⟨ρ', (fun (_ : Cx) (ys : List Value) => I ys ∧ μ ys < μ xs), ps, fun _ h => h, by rw [← hL]; simp, ⟨xs, rfl⟩, hA.good, hA.wf, hA.live, hA.defers.2.ok, fun C' ps' ys a2 W2 _ hsub hys hyf hyI => ⟨ys, ⟨hys.1, hyf, hyI.sub hsub⟩, hys.2⟩⟩, hr.mono ⟨xs, rfl⟩ ⟨_, rfl⟩⟩ hInv
          obtain ⟨N0, hsub0, hI0⟩ := h0 α
          have hf' : Inv w0 (Kf (C.plus N0) :: NF (C.plus N0) :: ps) T (ρ' ++ denL ρ' α vals) (freshS an (written c) s) a W := by
            obtain ⟨α2, hA2⟩ := hf
            exact ⟨α2, hA2.plus hps fun W' hW y hy => hps.lasts hA2 W' hW y (hsub0 y hy)⟩
          refine wpR_loop_ghost (γ := List Value × List Arg) (fun g a W => I g.1 g.2 ∧ Sh.fitL (an.pos.map fun e => e.2.sh) g.1 = true ∧ Inv w0 (Kf (C.plus g.2) :: NF (C.plus g.2) :: ps) T (ρ' ++ g.1) (freshS an (written c) s) a W) (fun g => μ g.1) (denL ρ' α vals, N0) ⟨hI0, hfit, hf'⟩ ?_
          intro ⟨xs, N⟩ a' W' ⟨hIx, hfx, hInv⟩
          exact hN hcw N _ w0 T0 R G (lv + 1) (freshS an (written c) s) (.code c :: .again lv an (written c) s :: k) T
            ((fun a' w' => ∃ g' : List Value × List Arg, (I g'.1 g'.2 ∧ Sh.fitL (an.pos.map fun e => e.2.sh) g'.1 = true ∧ Inv w0 (Kf (C.plus g'.2) :: NF (C.plus g'.2) :: ps) T (ρ' ++ g'.1) (freshS an (written c) s) a' w') ∧ μ g'.1 < μ xs) :: J)
            (L ++ [fun (C' : Cx) (ys : List Value) => C'.nb = C.nb ∧ ∃ N' : List Arg, (∀ y ∈ N', y ∈ C'.N) ∧ I ys N' ∧ μ ys < μ xs]) (ρ' ++ xs) a' W' hk12 (hps.plus N) (by rw [run_plus C]; exact hround xs N hfx hIx) (by simp [hL])
            ⟨⟨ρ', (fun (C' : Cx) (ys : List Value) => C'.nb = C.nb ∧ ∃ N' : List Arg, (∀ y ∈ N', y ∈ C'.N) ∧ I ys N' ∧ μ ys < μ xs), ps, (fun p hp => List.mem_cons_of_mem _ (List.mem_cons_of_mem _ hp)), by rw [← hL]; simp, ⟨xs, rfl⟩, hA.good, hA.wf, hA.live, hA.defers.2.ok, fun C' ps' ys a2 W2 hc' hsub ⟨hnb, N', hN', hys, hμ⟩ hyf hyI => ⟨(ys, N'), ⟨hys, hyf, by
              obtain ⟨α3, h3⟩ := hyI
              refine ⟨α3, (h3.more fun p hp => .inl (hsub p hp)).plus hps fun W3 hW3 y hy => ?_⟩
              have := hc'.lasts h3 W3 hW3 y (hN' y hy)
              exact ⟨this.1, by rw [← hnb]; exact this.2⟩⟩, hμ⟩⟩, (hr.mono ⟨xs, rfl⟩ ⟨_, rfl⟩).psm fun p hp => List.mem_cons_of_mem _ (List.mem_cons_of_mem _ hp)⟩ hInv
        simp [VC] at hv
      simp [VC] at hv
    · -- region
      rename_i id ops
      have := ih lv s (.ops ops ops.toList :: k) T J L ρ a W hv hL hr hI
      exact wpR_region this
    · -- a region that draws its order
      rename_i id ops
      split at hv
      · -- a row is written no more
        rename_i n0 hz
        obtain ⟨h12, b, sz, hn0, hbk⟩ := frzR_eq hz
        obtain ⟨α, hA⟩ := hI
        exact ih lv _ (.code (.region id ops true) :: k) T J L ρ a W hv hL hr ⟨α, hA.freezeR (hk12 h12) hn0 hbk⟩
      split at hv
      · rename_i hmix
        obtain ⟨α, hA⟩ := hI
        refine plan_ok (base := s.hp.length) (s0 := s.room ops.size) (ρ0 := ρ) hC hps ih0 (by show 1 ≠ 12; decide) hmix ⟨α, hA.room _⟩ (fun s' ρ' h1 h2 a' W' h3 => ?_) (fun s' ρ' l h1 h2 => by
          split at h1
          · rename_i hnj
            exact ⟨wpK_panic hnj, fun a' W' ⟨α', h3⟩ => ih lv _ (.ops ops l :: k) T J L ρ' a' W' h1 hL (hr.mono h2 (List.prefix_refl _)) ⟨α', h3.trim _ _⟩⟩
          simp [VC] at h1) (4 * ops.size + 20) (s.room ops.size) [] ops.toList [] ρ (by simp) rfl (List.prefix_refl _) hv ⟨hA.good.len, hA.good.fit, hA.good.kn⟩ rfl (fun i o d h => by simp at h)
        obtain ⟨α', h3⟩ := h3
        exact ih lv _ k T J L ρ' a' W' h1 hL (hr.mono h2 (List.prefix_refl _)) ⟨α', h3.trim _ _⟩
      simp [VC] at hv
    simp [VC] at hv
  · -- no operation is left
    rename_i all k
    exact ih lv s k T J L ρ a W hv hL hr hI
  -- an operation
  rename_i all o rest k
  have hrest : ∀ s' ρ' a' W', VC C w0 ps T0 R L ρ' (run C G n lv s' (.ops all rest :: k)) → ρ <+: ρ' → Inv w0 ps T ρ' s' a' W' → wpLR (rnd k T) C.P all (wpK C.P R k T J) rest a' W' := fun s' ρ' a' W' h1 h2 h3 => ih lv s' (.ops all rest :: k) T J L ρ' a' W' h1 hL (hr.mono h2 (List.prefix_refl _)) h3
  have hself : ∀ s' ρ', VC C w0 ps T0 R L ρ' (run C G n lv s' (.ops all (o :: rest) :: k)) → ρ <+: ρ' → Inv w0 ps T ρ' s' a W → wpLR (rnd k T) C.P all (wpK C.P R k T J) (o :: rest) a W := fun s' ρ' h1 h2 h3 => ih lv s' (.ops all (o :: rest) :: k) T J L ρ' a W h1 hL (hr.mono h2 (List.prefix_refl _)) h3
  have hskip : VC C w0 ps T0 R L ρ (run C G n lv (s.put o.dst (.k undef)) (.ops all rest :: k)) → Region.wanted o (yielded all a.tmps) = false → wpLR (rnd k T) C.P all (wpK C.P R k T J) (o :: rest) a W := fun h1 h2 => wpLR_skip h2 (hrest _ ρ _ _ h1 (List.prefix_refl _) (skip_inv hI _))
  dsimp only at hv
  show wpLR (rnd k T) C.P all (wpK C.P R k T J) (o :: rest) a W
  split at hv
  · rename_i hg
    exact go_ok hC hps hk12 hI (by simp [Region.wanted, hg]) hrest hself ih hN hL hr hv
  rename_i g want hg
  split at hv
  · simp [VC] at hv
  rename_i d hd
  obtain ⟨α, hA⟩ := hI
  split at hv
  · rename_i u hl
    exact hskip hv (wanted_no hA hg hd hl)
  · rename_i b hl
    have hwa := wanted_of hA hg hd hl
    split at hv
    · rename_i hb
      exact go_ok hC hps hk12 ⟨α, hA⟩ (hwa.trans hb) hrest hself ih hN hL hr hv
    rename_i hb
    exact hskip hv (hwa.trans (by simpa using hb))
  · rename_i i p hl
    split at hv
    · rename_i hi
      simp only [VC] at hv
      obtain ⟨b, hb, hbt, hbf⟩ := hv
      cases b
      · exact hself _ ρ (cutT_vc (hbf rfl)) (List.prefix_refl _) (br_inv ⟨α, hA⟩ hi hb)
      exact hself _ ρ (cutT_vc (hbt rfl)) (List.prefix_refl _) (br_inv ⟨α, hA⟩ hi hb)
    simp [VC] at hv
  simp [VC] at hv
theorem run_all : ∀ (n : Nat) (C : Cx) (ps : List (World → Prop)), C.Ok → RunOk C ps n
  | 0, _, _, _ => run_zero
  | n + 1, C, ps, hC => run_step hC (run_all n C ps hC) fun hw N ps' => run_all n (C.plus N) ps' (hC.plus hw N)
theorem run_ok (hC : C.Ok) (n : Nat) : RunOk C ps n := run_all n C ps hC
end
end SX
namespace SX
theorem Kf_none {C : Cx} (h : ∀ s sz cells, ¬ C.K s sz cells) (W : World) : Kf C W := fun s sz cells hk => (h s sz cells hk).elim
theorem fitL_get {sh : List Sh} {ρ : List Value} (h : Sh.fitL sh ρ = true) : sh.length = ρ.length ∧ ∀ (i : Nat) (s : Sh), sh[i]? = some s → s.fit (ρ.getD i undef) = true := by
  refine ⟨?_, fun i s hs => ?_⟩
  · induction sh generalizing ρ with
    | nil => cases ρ <;> simp [Sh.fitL] at h ⊢
    | cons s l ih => cases ρ with
      | nil => simp [Sh.fitL] at h
      | cons v r =>
        simp only [Sh.fitL, Bool.and_eq_true] at h
        simp [ih h.2]
  obtain ⟨v, h1, h2⟩ := fitL_at h hs
  rw [List.getD_eq_getElem?_getD, h1]
  exact h2
mutual
def Tree.strip : Tree → Tree
  | .df q a s t => .df q a s t.strip
  | .br i p t e => .br i p t.strip e.strip
  | .sp i p l => .sp i p (stripL l)
  | .ret v hp stk => .ret v hp stk
  | .loop v s t => .loop v s t.strip
  | .again l v => .again l v
  | .bad n _ => .bad n []
def stripL : List Tree → List Tree
  | [] => []
  | t :: l => t.strip :: stripL l
end
theorem stripL_len : ∀ l : List Tree, (stripL l).length = l.length
  | [] => rfl
  | _ :: l => by simp [stripL, stripL_len l]
section
variable {w0 : Org} {T0 : List TF} {R : Ending → World → Prop}
mutual
theorem VC_strip : ∀ (t : Tree) {C : Cx} {ps : List (World → Prop)} (L : List (Cx → List Value → Prop)) (ρ : List Value), VC C w0 ps T0 R L ρ t.strip → VC C w0 ps T0 R L ρ t
  | .df q a s t, C, ps, L, ρ, h => by
    simp only [Tree.strip, VC] at h ⊢
    rcases h with ⟨v, h1, h2, h3⟩ | ⟨hc, Q, h1, h2⟩
    · exact .inl ⟨v, h1, h2, VC_strip t _ _ h3⟩
    exact .inr ⟨hc, Q, h1, fun v N h3 h4 => VC_strip t _ _ (h2 v N h3 h4)⟩
  | .br i p t e, C, ps, L, ρ, h => by
    simp only [Tree.strip, VC] at h ⊢
    obtain ⟨b, h1, h2, h3⟩ := h
    exact ⟨b, h1, fun hb => VC_strip t _ _ (h2 hb), fun hb => VC_strip e _ _ (h3 hb)⟩
  | .sp i p l, C, ps, L, ρ, h => by
    simp only [Tree.strip, VC, stripL_len] at h ⊢
    exact ⟨h.1, VCs_strip l _ _ _ _ h.2⟩
  | .ret v hp stk, C, ps, L, ρ, h => h
  | .loop v s t, C, ps, L, ρ, h => by
    simp only [Tree.strip, VC] at h ⊢
    rcases h with ⟨I, μ, h1, h2⟩ | ⟨hc, I, μ, h1, h2⟩
    · exact .inl ⟨I, μ, h1, fun xs h3 h4 => VC_strip t _ _ (h2 xs h3 h4)⟩
    exact .inr ⟨hc, I, μ, h1, fun xs N h3 h4 => VC_strip t _ _ (h2 xs N h3 h4)⟩
  | .again l v, C, ps, L, ρ, h => h
  | .bad n o, C, ps, L, ρ, h => by simp [Tree.strip, VC] at h
theorem VCs_strip : ∀ (l : List Tree) {C : Cx} {ps : List (World → Prop)} (L : List (Cx → List Value → Prop)) (ρ : List Value) (u : Value) (j : Nat), VCs C w0 ps T0 R L ρ u j (stripL l) → VCs C w0 ps T0 R L ρ u j l
  | [], C, ps, L, ρ, u, j, h => by unfold VCs; trivial
  | t :: l, C, ps, L, ρ, u, j, h => by
    simp only [stripL, VCs] at h ⊢
    exact ⟨fun hu => VC_strip t _ _ (h.1 hu), VCs_strip l _ _ _ _ h.2⟩
end
end
theorem calls_of_run {C : Cx} {G : Cfg} {R : Ending → World → Prop} {f : FuncId} {fn : Func} {body : Code} {args : List V} {sh : List Sh} {ρ : List Value} {w : World} {vals : Array Value} (n : Nat) (t : Tree) (hC : C.Ok) (hf : C.P.funcs[f]? = some fn) (hb : fn.body = some body) (ht : (run C G n 0 (door f fn args sh) [.code body, .top fn]).strip = t)
    (hd : doorOk fn args sh = true) (hfit : Sh.fitL sh ρ = true) (hvals : (denL ρ (fun _ => default) args).toArray = vals) (hK : ∀ W', Same [] w W' → Kf C W') (hv : VC C ⟨w, [], Af C, Bf C⟩ [Kf C] [] R [] ρ t) (hN : C.N = [] ∧ C.nb ≤ w.heap.size := by exact ⟨rfl, Nat.zero_le _⟩) : Calls C.P f vals w R := by
  subst ht
  subst hvals
  replace hv := VC_strip _ _ _ hv
  refine calls_of_endR hf hb ?_
  simp only [doorOk, Bool.and_eq_true, decide_eq_true_eq] at hd
  obtain ⟨hl, hg⟩ := fitL_get hfit
  have hI : Inv ⟨w, [], Af C, Bf C⟩ [Kf C] [] ρ (door f fn args sh) { tmps := (denL ρ (fun _ => default) args).toArray ++ Array.replicate (fn.ntmps - (denL ρ (fun _ => default) args).toArray.size) undef, defers := [] } w := by
    refine ⟨fun _ => default, ⟨nofun, rfl⟩, ⟨hl, hg, fun e he => nomatch he⟩, ⟨fun v hv' => ?_, fun f hf => (nomatch hf), (fun b hb => nomatch hb), (fun b hb => nomatch hb)⟩, ⟨by simp [door, denL_len], fun d v hd' => ?_⟩, trivial, ?_, ?_, ?_⟩
    · rcases List.mem_append.1 hv' with h | h
      · obtain ⟨u, hu, e⟩ := List.mem_map.1 h
        obtain rfl : u = v := by simpa using e
        rw [← hl]
        exact wfL_mem hd.2 u hu
      · have := List.eq_of_mem_replicate h
        cases this
        rfl
    · rw [Array.getElem?_append]
      simp only [List.size_toArray, denL_len]
      simp only [door] at hd'
      by_cases hlt : d < args.length
      · rw [List.getElem?_append_left (by simpa using hlt), List.getElem?_map, List.getElem?_eq_getElem hlt] at hd'
        simp only [Option.map_some, Option.some.injEq] at hd'
        rw [if_pos hlt]
        simpa using denL_at (ρ := ρ) (α := fun _ => default) (by rw [List.getElem?_eq_getElem hlt, hd'])
      rw [List.getElem?_append_right (by simpa using hlt), List.getElem?_replicate] at hd'
      rw [if_neg hlt, Array.getElem?_replicate]
      simp only [List.length_map] at hd'
      split at hd'
      · rename_i h9
        rw [if_pos h9]
        cases hd'
        rfl
      cases hd'
    · exact ((⟨⟨rfl, rfl, rfl, Nat.le_refl _, fun _ _ _ => rfl⟩, (fun _ h => nomatch h), (fun _ h => nomatch h), (by simp [muts]), (fun _ h => nomatch h)⟩ : St ⟨w, [], Af C, Bf C⟩ [] [] [] w)).keep0 hK
    · exact fun n b h => nomatch h
    exact fun n b h => nomatch h
  have := run_ok hC n ⟨w, [], Af C, Bf C⟩ [] R G 0 (door f fn args sh) [.code body, .top fn] [] [] [] ρ _ w (fun _ => rfl) ⟨List.mem_cons_self .., fun _ h => h, fun _ h => h, hN.2, .inl hN.1⟩ hv rfl rfl hI
  exact this
theorem calls_of_runW {C : Cx} {G : Cfg} {R : Ending → World → Prop} {f : FuncId} {fn : Func} {body : Code} {args : List V} {sh : List Sh} {ρ : List Value} {w : World} {vals : Array Value} {bs : List Nat} {bl : List Blk} (n : Nat) (t : Tree) (hC : C.Ok) (hf : C.P.funcs[f]? = some fn) (hb : fn.body = some body)
    (ht : (run C G n 0 { fr := args.map some ++ List.replicate (fn.ntmps - args.length) (some (.k undef)), stk := [(List.range bl.length).map fun n => some (.p n 0)], hp := bl.map some, ln := bl.map some, sh := sh, kn := [], lps := [], cur := f } [.code body, .top fn]).strip = t)
    (hd : (decide (args.length ≤ fn.ntmps) && wfL (bl.map some) sh.length args && bl.all fun b => wfL [] sh.length b.c && decide (b.k = .cells)) = true) (hfit : Sh.fitL sh ρ = true) (hvals : (denL ρ (fun n => ⟨bs.getD n 0, undef, []⟩) args).toArray = vals) (hK : ∀ W', Same bs w W' → Kf C W')
    (hnd : bs.Nodup) (hl : bs.length = bl.length) (hbl : ∀ (i b : Nat) (B : Blk), bs[i]? = some b → bl[i]? = some B → w.heap[b]? = some (.cells (denL ρ (fun _ => default) B.c).toArray B.t (0, 0)))
    (h12 : G.keep ≠ 12) (hv : VC C ⟨w, bs, Af C, Bf C⟩ [Kf C] [⟨(bs.map fun b => Value.pointer (some ⟨b, 0, none⟩)).toArray, [], none⟩] R [] ρ t) (hN : C.N = [] ∧ C.nb ≤ w.heap.size := by exact ⟨rfl, Nat.zero_le _⟩) : Calls C.P f vals w R := by
  subst ht
  subst hvals
  replace hv := VC_strip _ _ _ hv
  refine calls_of_endR hf hb ?_
  simp only [Bool.and_eq_true, decide_eq_true_eq] at hd
  obtain ⟨⟨hle, hwa⟩, hwb⟩ := hd
  obtain ⟨hlg, hg⟩ := fitL_get hfit
  have hb1 : ∀ B ∈ bl, wfL [] ρ.length B.c = true ∧ B.k = .cells := fun B hB => by
    have := List.all_eq_true.1 hwb B hB
    simp only [Bool.and_eq_true, decide_eq_true_eq] at this
    rw [← hlg]; exact this
  have hbd : ∀ B ∈ bl, ∀ α α', denL ρ α B.c = denL ρ α' B.c := fun B hB α α' => denL_eq (hp := []) (fun n h => by simp [SX.lv] at h) (List.prefix_refl _) B.c (hb1 B hB).1
  have hat : ∀ (i : Nat) (B : Blk), (bl.map some)[i]? = some (some B) → bl[i]? = some B := fun i B h => by simpa using h
  have hgd : ∀ i, i < bl.length → bs[i]? = some (bs.getD i 0) := fun i hi => by
    rw [List.getD_eq_getElem?_getD, List.getElem?_eq_getElem (by omega)]; rfl
  have hch : ∀ (i : Nat) (B : Blk), bl[i]? = some B → B.ch ρ (fun n => ⟨bs.getD n 0, undef, []⟩) i = some ⟨bs.getD i 0, (denL ρ (fun n => ⟨bs.getD n 0, undef, []⟩) B.c).toArray, B.t⟩ := fun i B h => by simp only [Blk.ch, (hb1 B (List.mem_of_getElem? h)).2]
  have hlvb : ∀ i, i < bl.length → SX.lv (bl.map some) i = true := fun i hi => lv_iff.2 ⟨bl[i], by simp [hi]⟩
  have hids : ∀ {l : List Blk} {k : Nat} {α : Nat → AV}, (∀ (i : Nat) (B : Blk), l[i]? = some B → B.k = .cells) → (chs ρ α k (l.map some)).map (·.id) = (List.range' k l.length).map fun i => (α i).b := by
    intro l
    induction l with
    | nil => intro k α _; simp [chs]
    | cons B l ih =>
      intro k α hk
      simp only [List.map_cons, chs, Blk.ch, hk 0 B rfl, Option.toList_some, List.cons_append, List.nil_append, List.length_cons, List.range'_succ]
      rw [ih fun i B' h => hk (i + 1) B' (by simpa using h)]
  have hI : Inv ⟨w, bs, Af C, Bf C⟩ [Kf C] [⟨(bs.map fun b => Value.pointer (some ⟨b, 0, none⟩)).toArray, [], none⟩] ρ { fr := args.map some ++ List.replicate (fn.ntmps - args.length) (some (.k undef)), stk := [(List.range bl.length).map fun n => some (.p n 0)], hp := bl.map some, ln := bl.map some, sh := sh, kn := [], lps := [], cur := f } { tmps := (denL ρ (fun n => ⟨bs.getD n 0, undef, []⟩) args).toArray ++ Array.replicate (fn.ntmps - (denL ρ (fun n => ⟨bs.getD n 0, undef, []⟩) args).toArray.size) undef, defers := [] } w := by
    refine ⟨fun n => ⟨bs.getD n 0, undef, []⟩, ⟨nofun, nofun, rfl⟩, ⟨hlg, hg, fun e he => nomatch he⟩, ⟨fun v hv' => ?_, fun fr hfr => ?_, fun b hb => ?_, fun b hb => ?_⟩, ⟨by simp [denL_len], fun d v hd' => ?_⟩, ⟨⟨by simp [hl], fun d v hd' => ?_⟩, trivial⟩, ?_, ?_, ?_⟩
    · rcases List.mem_append.1 hv' with h | h
      · obtain ⟨u, hu, e⟩ := List.mem_map.1 h
        obtain rfl : u = v := by simpa using e
        rw [← hlg]
        exact wfL_mem hwa u hu
      · have := List.eq_of_mem_replicate h
        cases this
        rfl
    · obtain rfl := List.mem_singleton.1 hfr
      intro v hv'
      obtain ⟨i, hi, e⟩ := List.mem_map.1 hv'
      cases e
      exact hlvb i (List.mem_range.1 hi)
    · obtain ⟨B, hB, e⟩ := List.mem_map.1 hb
      cases e
      exact wfL_mono (fun n h => by simp [SX.lv] at h) (Nat.le_refl _) _ (hb1 _ hB).1
    · obtain ⟨B, hB, e⟩ := List.mem_map.1 hb
      cases e
      exact wfL_mono (fun n h => by simp [SX.lv] at h) (Nat.le_refl _) _ (hb1 _ hB).1
    · rw [Array.getElem?_append]
      simp only [List.size_toArray, denL_len]
      simp only at hd'
      by_cases hlt : d < args.length
      · rw [List.getElem?_append_left (by simpa using hlt), List.getElem?_map, List.getElem?_eq_getElem hlt] at hd'
        simp only [Option.map_some, Option.some.injEq] at hd'
        rw [if_pos hlt]
        simpa using denL_at (ρ := ρ) (α := fun n => ⟨bs.getD n 0, undef, []⟩) (by rw [List.getElem?_eq_getElem hlt, hd'])
      rw [List.getElem?_append_right (by simpa using hlt), List.getElem?_replicate] at hd'
      rw [if_neg hlt, Array.getElem?_replicate]
      simp only [List.length_map] at hd'
      split at hd'
      · rename_i h9
        rw [if_pos h9]
        cases hd'
        rfl
      cases hd'
    · simp only [List.getElem?_map, Option.map_eq_some_iff] at hd'
      obtain ⟨i, hi, e⟩ := hd'
      cases e
      have hil : d < bl.length := by have := (List.getElem?_eq_some_iff.1 hi).1; simpa using this
      obtain rfl : d = i := by simpa [hil] using hi
      simp only [List.getElem?_toArray, List.getElem?_map, hgd d hil, Option.map_some, V.den]
    · refine ⟨⟨rfl, rfl, rfl, Nat.le_refl _, fun _ _ _ => rfl⟩, fun e he => ?_, (fun _ h => nomatch h), ?_, fun p hp W' hW => ?_⟩
      · obtain ⟨i, B, h1, h2⟩ := chs_inv he
        rw [Nat.zero_add] at h2
        have hB := hat i B h1
        rw [hch i B hB] at h2
        cases h2
        have hil := (List.getElem?_eq_some_iff.1 hB).1
        refine ⟨.inr (List.mem_of_getElem? (hgd i hil)), ?_⟩
        have := hbl i _ B (hgd i hil) hB
        rw [hbd B (List.mem_of_getElem? hB) _ (fun _ => default)]
        exact this
      · show ((chs ρ (fun n => ⟨bs.getD n 0, undef, []⟩) 0 (bl.map some)).map Ch.id ++ []).Nodup
        rw [List.append_nil, hids fun i B h => (hb1 B (List.mem_of_getElem? h)).2]
        have : (List.range' 0 bl.length).map (fun i => bs.getD i 0) = bs := by
          apply List.ext_getElem?
          intro i
          by_cases hi : i < bl.length
          · rw [List.getElem?_map, List.getElem?_range' hi, hgd i hi]; simp
          rw [List.getElem?_eq_none (by simpa using hi), List.getElem?_eq_none (by omega)]
        rw [this]
        exact hnd
      have hmu : muts (chs ρ (fun n => ⟨bs.getD n 0, undef, []⟩) 0 (bl.map some)) [] = bs := by
        show (chs ρ (fun n => ⟨bs.getD n 0, undef, []⟩) 0 (bl.map some)).map Ch.id ++ [] = bs
        rw [List.append_nil, hids fun i B h => (hb1 B (List.mem_of_getElem? h)).2]
        apply List.ext_getElem?
        intro i
        by_cases hi : i < bl.length
        · rw [List.getElem?_map, List.getElem?_range' hi, hgd i hi]; simp
        rw [List.getElem?_eq_none (by simpa using hi), List.getElem?_eq_none (by omega)]
      have hp : p = Kf C := by
        rcases List.mem_append.1 hp with hp | hp
        · obtain ⟨i, B, h1, h2⟩ := exs_mem.1 hp
          rw [Blk.own_ex (by simp [Blk.own, (hb1 B (List.mem_of_getElem? (hat i B h1))).2])] at h2
          cases h2
        simpa using hp
      subst hp
      exact hK W' (by rw [← hmu]; exact hW)
    · intro i B h
      have hB := hat i B h
      exact ⟨hlvb i (List.getElem?_eq_some_iff.1 hB).1, by simp only [Blk.rowOk, (hb1 B (List.mem_of_getElem? hB)).2]⟩
    intro i B h
    have hB := hat i B h
    simp only [Blk.lenOk, (hb1 B (List.mem_of_getElem? hB)).2]
  have := run_ok hC n ⟨w, bs, Af C, Bf C⟩ [⟨(bs.map fun b => Value.pointer (some ⟨b, 0, none⟩)).toArray, [], none⟩] R G 0 _ [.code body, .top fn] _ [] [] ρ _ w (fun h => absurd h h12) ⟨List.mem_cons_self .., fun _ h => h, fun _ h => h, hN.2, .inl hN.1⟩ hv rfl rfl hI
  exact this
def Ret (w : World) (u : Value) (e : Ending) (w' : World) : Prop := e = .returned u ∧ Below w.heap.size w w'
theorem St.ret {w : World} {rt : World → Prop} {rf : Nat → Prop} {hs : List Ch} {os : List Ow} {ps : List (World → Prop)} {W : World} {u v : Value} (h : St ⟨w, [], rt, rf⟩ hs os ps W) (hu : v = u) : Ret w u (.returned v) W := ⟨by rw [hu], h.below⟩
end SX
theorem wrap_i64 {x : Int} (h1 : -9223372036854775808 ≤ x) (h2 : x ≤ 9223372036854775807) : IntKind.i64.wrap x = x := by
  rw [IntKind.wrap_i64]; omega
theorem wrap_u64 {x : Int} (h1 : 0 ≤ x) (h2 : x ≤ 18446744073709551615) : IntKind.u64.wrap x = x := by
  simp only [IntKind.wrap, IntKind.signed, IntKind.bits]; simp; omega
namespace SX
section
variable {C : Cx} {w0 : Org} {ps : List (World → Prop)} {T0 : List TF} {R : Ending → World → Prop} {L : List (Cx → List Value → Prop)} {ρ : List Value}
theorem VC_df {q : Opq} {args : List V} {sh : Sh} {t : Tree} (v : Value) (h : ∀ α, q.rel C ρ α args v) (hf : sh.fit v = true) (k : VC C w0 ps T0 R L (ρ ++ [v]) t) : VC C w0 ps T0 R L ρ (.df q args sh t) := by
  unfold VC; exact .inl ⟨v, h, hf, k⟩
theorem VC_br {i : Nat} {p : List Nat} {t e : Tree} (b : Bool) (h : p.foldl comp (ρ.getD i undef) = .bool b) (ht : b = true → VC C w0 ps T0 R L ρ t) (he : b = false → VC C w0 ps T0 R L ρ e) : VC C w0 ps T0 R L ρ (.br i p t e) := by
  unfold VC; exact ⟨b, h, ht, he⟩
theorem VC_ret {v : V} {hp : List (Option Blk)} {stk : List (List (Option V))} (h : ∀ α W, Fms ρ α stk T0 → (∀ (n : Nat) (b : Blk), hp[n]? = some (some b) → b.rowOk ρ α n) → St w0 (chs ρ α 0 hp) [] (exs w0 ρ α 0 hp ++ ps) W → R (.returned (v.den ρ α)) W) : VC C w0 ps T0 R L ρ (.ret v hp stk) := by
  unfold VC; exact h
theorem VC_loop {vals : List V} {shs : List Sh} {t : Tree} (I : List Value → Prop) (μ : List Value → Nat) (h0 : ∀ α, I (denL ρ α vals)) (h : ∀ xs, Sh.fitL shs xs = true → I xs → VC C w0 ps T0 R (L ++ [fun (_ : Cx) (ys : List Value) => I ys ∧ μ ys < μ xs]) (ρ ++ xs) t) : VC C w0 ps T0 R L ρ (.loop vals shs t) := by
  unfold VC; exact .inl ⟨I, μ, h0, h⟩
theorem VC_dn {q : Opq} {args : List V} {sh : Sh} {t : Tree} (Q : Value → List Arg → Prop) (hc : ∀ f, C.cw f = none) (h : ∀ α, q.relN C ρ α args Q) (k : ∀ v N, sh.fit v = true → Q v N → VC (C.plus (N ++ C.N)) w0 (Kf (C.plus (N ++ C.N)) :: NF (C.plus (N ++ C.N)) :: ps) T0 R L (ρ ++ [v]) t) : VC C w0 ps T0 R L ρ (.df q args sh t) := by
  unfold VC; exact .inr ⟨hc, Q, h, k⟩
theorem VC_again {l : Nat} {vals : List V} (h : ∀ α, (L.getD l fun (_ : Cx) (_ : List Value) => False) C (denL ρ α vals)) : VC C w0 ps T0 R L ρ (.again l vals) := by
  unfold VC; exact h
theorem D {q : Opq} {args : List V} {sh : Sh} {t : Tree} (v : Value) (k : VC C w0 ps T0 R L (ρ ++ [v]) t) (h : ∀ α, q.rel C ρ α args v := by intro α; show _ = _; kernel_rfl) (hf : sh.fit v = true := by kernel_rfl) : VC C w0 ps T0 R L ρ (.df q args sh t) := VC_df v h hf k
theorem E {q : Opq} {args : List V} {sh : Sh} {t : Tree} (v : Value) (h : ∀ α, q.rel C ρ α args v) (k : VC C w0 ps T0 R L (ρ ++ [v]) t) (hf : sh.fit v = true := by kernel_rfl) : VC C w0 ps T0 R L ρ (.df q args sh t) := VC_df v h hf k
theorem B {i : Nat} {p : List Nat} {t e : Tree} (b : Bool) (ht : b = true → VC C w0 ps T0 R L ρ t) (he : b = false → VC C w0 ps T0 R L ρ e) (h : p.foldl comp (ρ.getD i undef) = .bool b := by kernel_rfl) : VC C w0 ps T0 R L ρ (.br i p t e) := VC_br b h ht he
theorem VC_sp {i : Nat} {p : List Nat} {l : List Tree} (j : Nat) (hj : j < l.length) (h : p.foldl comp (ρ.getD i undef) = .int .i64 j) (ht : ∀ t, l[j]? = some t → VC C w0 ps T0 R L ρ t) : VC C w0 ps T0 R L ρ (.sp i p l) := by
  unfold VC
  refine ⟨⟨j, hj, h⟩, ?_⟩
  rw [h]
  have key : ∀ (l : List Tree) (k : Nat), (∀ t m, l[m]? = some t → k + m = j → VC C w0 ps T0 R L ρ t) → VCs C w0 ps T0 R L ρ (.int .i64 (j : Int)) k l := by
    intro l
    induction l with
    | nil => intro k _; unfold VCs; trivial
    | cons t l ih =>
      intro k hk
      unfold VCs
      refine ⟨fun e => hk t 0 rfl ?_, ih (k + 1) fun t m hm he => hk t (m + 1) (by simpa using hm) (by omega)⟩
      injection e with _ e
      omega
  exact key l 0 fun t m hm he => ht t (by rw [← hm]; congr 1; omega)
end
theorem flat_len {β : Type} {f : β → List Value} {sz : Nat} (hf : ∀ a, (f a).length = sz) : ∀ l : List β, (l.flatMap f).length = l.length * sz
  | [] => by simp
  | a :: l => by simp only [List.flatMap_cons, List.length_append, List.length_cons, flat_len hf l, hf]; rw [Nat.add_mul]; omega
theorem flat_drop {β : Type} {f : β → List Value} {sz : Nat} (hf : ∀ a, (f a).length = sz) : ∀ (l : List β) (j : Nat), (l.flatMap f).drop (j * sz) = (l.drop j).flatMap f
  | l, 0 => by simp
  | [], j + 1 => by simp
  | a :: l, j + 1 => by
    rw [List.flatMap_cons, show (j + 1) * sz = (f a).length + j * sz by rw [hf, Nat.add_mul]; omega, List.drop_append, List.drop_of_length_le (by omega), List.nil_append, Nat.add_sub_cancel_left, List.drop_succ_cons, ← flat_drop hf l j]
theorem flat_take {β : Type} {f : β → List Value} {sz : Nat} (hf : ∀ a, (f a).length = sz) : ∀ (l : List β) (j : Nat), (l.flatMap f).take (j * sz) = (l.take j).flatMap f
  | l, 0 => by simp
  | [], j + 1 => by simp
  | a :: l, j + 1 => by
    rw [List.flatMap_cons, show (j + 1) * sz = (f a).length + j * sz by rw [hf, Nat.add_mul]; omega, List.take_length_add_append, List.take_succ_cons, List.flatMap_cons, ← flat_take hf l j]
theorem flat_elem {β : Type} {f : β → List Value} {sz : Nat} (hf : ∀ a, (f a).length = sz) {l : List β} {j : Nat} {z : β} (hz : l[j]? = some z) : (l.flatMap f).drop (j * sz) = f z ++ (l.drop (j + 1)).flatMap f := by
  rw [flat_drop hf, List.drop_eq_getElem_cons (List.getElem?_eq_some_iff.1 hz).1, List.flatMap_cons, (List.getElem?_eq_some_iff.1 hz).2]
theorem extBnd {C : Cx} {ρ : List Value} {α : Nat → AV} {s i : V} {A : Option Addr} {n c j : Nat} (hA : 0 < n → A.isSome = true) (hs : s.den ρ α = .slice A n c) (hi : i.den ρ α = .int .i64 (j : Int)) (hj : j < n) : Opq.rel C ρ α .bnd [s, i] (.bool true) := by
  obtain ⟨ad, rfl⟩ := Option.isSome_iff_exists.1 (hA (by omega))
  refine ⟨?_, rfl⟩
  rw [hs, hi]
  exact ⟨by omega, by omega⟩
theorem extElems {C : Cx} {ρ : List Value} {α : Nat → AV} {s i : V} {A : Option Addr} {n c j sz : Nat} {β : Type} {f : β → List Value} {l : List β} {z : β} (hf : ∀ a, (f a).length = sz) (hA : 0 < n → A.isSome = true) (hs : s.den ρ α = .slice A n c) (hi : i.den ρ α = .int .i64 (j : Int)) (hj : j < n) (hK : C.K (.slice A n c) sz (l.flatMap f)) (hz : l[j]? = some z) : Opq.rel C ρ α (.elems sz 0 sz) [s, i] (.agg (f z).toArray) := by
  refine ⟨(extBnd (C := C) hA hs hi hj).1, l.flatMap f, by rw [hs]; exact hK, ?_, ?_⟩
  · rw [hi, flat_len hf]
    have h1 : (j + 1) * sz ≤ l.length * sz := Nat.mul_le_mul_right _ (List.getElem?_eq_some_iff.1 hz).1
    rw [Nat.add_mul] at h1
    show (j : Int).toNat * sz + 0 + sz ≤ _
    rw [Int.toNat_natCast]; omega
  rw [hi]
  show _ = Value.agg (((l.flatMap f).drop ((j : Int).toNat * sz + 0)).take sz).toArray
  rw [Int.toNat_natCast, Nat.add_zero, flat_elem hf hz, List.take_left' (hf z)]
theorem extElem {C : Cx} {ρ : List Value} {α : Nat → AV} {s i : V} {A : Option Addr} {n c j sz o : Nat} {β : Type} {f : β → List Value} {l : List β} {z : β} {v : Value} (hf : ∀ a, (f a).length = sz) (hA : 0 < n → A.isSome = true) (hs : s.den ρ α = .slice A n c) (hi : i.den ρ α = .int .i64 (j : Int)) (hj : j < n) (hK : C.K (.slice A n c) sz (l.flatMap f)) (hz : l[j]? = some z) (ho : o < sz) (hv : (f z)[o]? = some v) : Opq.rel C ρ α (.elem sz o) [s, i] v := by
  refine ⟨(extBnd (C := C) hA hs hi hj).1, l.flatMap f, by rw [hs]; exact hK, ?_⟩
  rw [hi]
  show (l.flatMap f)[(j : Int).toNat * sz + o]? = some v
  rw [Int.toNat_natCast, ← List.getElem?_drop, flat_elem hf hz, List.getElem?_append_left (by rw [hf]; exact ho), hv]
theorem eqr_rel {C : Cx} {ρ : List Value} {α : Nat → AV} {neq : Bool} {n : Nat} {l : List CK} {vs : List V} {β : Type} [DecidableEq β] {f : β → List Value} (hf : ∀ a b, f a = f b → a = b) {y z : β} (h : (f y = f z) = (denL ρ α (vs.take n) = denL ρ α (vs.drop n))) (h1 : fits l (denL ρ α (vs.take n)) = true) (h2 : fits l (denL ρ α (vs.drop n)) = true) : Opq.rel C ρ α (.eqr neq n l) vs (.bool (neq ^^ decide (y = z))) :=
  ⟨decide (y = z), by rw [← h, decide_eq_true_eq]; exact ⟨fun e => by rw [e], hf y z⟩, h1, h2, rfl⟩
theorem rd_some {W : World} {sz : Nat} {A : Option Addr} {n : Nat} {xs : List Value} (h : Rd W sz A n xs) : 0 < n → A.isSome = true := fun hn => by
  obtain ⟨ad, rfl, _⟩ := h.2 hn
  rfl
theorem noAli {C : Cx} {f : FuncId} {rw : List Rw} {as' : List Arg} (h : C.ali f = []) : aliRel C f rw as' := fun j hj => by rw [h] at hj; cases hj
theorem rem_nat {a b : Nat} (h : 0 < b) : binV .rem (.int .i64 (a : Int)) (.int .i64 (b : Int)) = some (.int .i64 ((a % b : Nat) : Int)) := by
  have hb : ¬ ((b : Int) = 0) := by omega
  have e : ((a % b : Nat) : Int) = (a : Int).tmod b := by
    rw [Int.tmod_eq_emod_of_nonneg (by omega)]; rfl
  simp only [binV]
  rw [if_pos trivial, if_neg hb, e]
theorem ret_of {w : World} {rt : World → Prop} {rf : Nat → Prop} {hs : List Ch} {os : List Ow} {ps : List (World → Prop)} {W : World} {u v x : Value} (h : St ⟨w, [], rt, rf⟩ hs os ps W) (hu : Ending.returned v = .returned x) (hx : x = u) : Ending.returned v = .returned u ∧ Below w.heap.size w W := ⟨hu.trans (by rw [hx]), h.below⟩
theorem F {C : Cx} {w : World} {rt : World → Prop} {rf : Nat → Prop} {ps : List (World → Prop)} {T0 : List TF} {L : List (Cx → List Value → Prop)} {ρ : List Value} {v : V} {hp : List (Option Blk)} {stk : List (List (Option V))} {u : Value} (x : Value) (hx : x = u) (hu : ∀ α, Ending.returned (v.den ρ α) = .returned x := by intro α; kernel_rfl) : VC C ⟨w, [], rt, rf⟩ ps T0 (fun e w' => e = .returned u ∧ Below w.heap.size w w') L ρ (.ret v hp stk) := VC_ret fun α W _ _ hS => ret_of hS (hu α) hx
theorem W {v : Option Value} (x : Int) (h : v = some (.int .i64 (IntKind.i64.wrap x)) := by kernel_rfl) (h1 : -9223372036854775808 ≤ x := by omega) (h2 : x ≤ 9223372036854775807 := by omega) : v = some (.int .i64 x) := h.trans (by rw [wrap_i64 h1 h2])
theorem W1 (i : Nat) {v : Option Value} (h : v = some (.int .i64 (IntKind.i64.wrap ((i : Int) + 1))) := by kernel_rfl) (hb : (i : Int) < 9223372036854775807 := by omega) : v = some (.int .i64 ((i + 1 : Nat) : Int)) := h.trans (by rw [show ((i + 1 : Nat) : Int) = (i : Int) + 1 by omega, wrap_i64 (by omega) (by omega)])
def V.q (i : Nat) : V := .x i []
def V.i (n : Int) : V := .k (.int .i64 n)
def Y (i a n : Nat) : List V := (List.range n).map fun j => .x i [a + j]
def Z (a n : Nat) : List V := (List.range n).map fun j => .x (a + j) []
end SX
theorem LL : (∀ {α : Type} (a b : List α), (a ++ b).length = a.length + b.length) ∧ (∀ {α : Type} (i : Nat) (l : List α), (l.take i).length = min i l.length) ∧ (∀ {α : Type} (i : Nat) (l : List α), (l.drop i).length = l.length - i) ∧ (∀ {α : Type} (a : α) (l : List α), (a :: l).length = l.length + 1) ∧ (∀ {α : Type}, ([] : List α).length = 0) :=
  ⟨fun _ _ => List.length_append, fun _ _ => List.length_take, fun _ _ => List.length_drop, fun _ _ => List.length_cons, List.length_nil⟩
theorem NRM : (∀ b : Bool, (true != b) = !b) ∧ (∀ b : Bool, (false != b) = b) ∧ (∀ b : Bool, (true ^^ b) = !b) ∧ (∀ b : Bool, (false ^^ b) = b) ∧ (∀ b : Bool, ((!b) = true) = (b = false)) ∧ (∀ b : Bool, ((!b) = false) = (b = true)) ∧ (∀ (p : Prop) [Decidable p], (decide p = true) = p) ∧ (∀ (p : Prop) [Decidable p], (decide p = false) = ¬ p) ∧ (∀ {α : Type} [BEq α] [LawfulBEq α] (a b : α), ((a == b) = true) = (a = b)) ∧ (∀ {α : Type} [BEq α] [LawfulBEq α] (a b : α), ((a != b) = true) = (a ≠ b)) ∧ (∀ {α : Type} (a b : α), (a ≠ b) = ¬ (a = b)) ∧ (∀ {α : Type} [BEq α] [LawfulBEq α] (a b : α), ((a == b) = false) = (a ≠ b)) ∧ (∀ {α : Type} [BEq α] [LawfulBEq α] (a b : α), ((a != b) = false) = (a = b)) ∧ (∀ {a b : Int}, (¬ a < b) = (b ≤ a)) ∧ (∀ {a b : Int}, (¬ a ≤ b) = (b < a)) ∧ (∀ {α : Type} [LT α] (a b : α), (a > b) = (b < a)) ∧ (∀ {α : Type} [LE α] (a b : α), (a ≥ b) = (b ≤ a)) :=
  ⟨by simp, by simp, by simp, by simp, by simp, by simp, fun p _ => by simp, fun p _ => by simp, by intros; simp, by intros; simp, by intros; simp, by intros; simp, by intros; simp, by intros; simp [Int.not_lt], by intros; simp [Int.not_le], by intros; rfl, by intros; rfl⟩
end Go.Proofs.YtdamlaegboiokaaDoor
