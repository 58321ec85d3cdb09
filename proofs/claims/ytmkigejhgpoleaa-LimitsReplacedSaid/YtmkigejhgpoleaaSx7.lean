/-
  A symbolic executor, seventh part: a tree that holds says what the code does.
-/
import Derived.Test.YtmkigejhgpoleaaSx6
namespace Go.Proofs.Ytmkigejhgpoleaa
set_option linter.unusedSimpArgs false
set_option linter.unusedVariables false
open Go Go.RowKit
namespace SX

/-- the round that a frame is -/
def rnd : List It → List TF → Option Nat
  | .code _ :: k, T => rnd k T
  | .inBlock _ :: k, T => rnd k T
  | .rounds _ _ :: k, T => rnd k T
  | .ops _ _ :: k, T => rnd k T
  | .again _ _ _ _ :: k, T => rnd k T
  | .beginR :: k, T => rnd k T
  | .endR _ _ _ _ :: _, _ :: c :: _ => c.lp.map (·.1)
  | _, _ => none
/-- the way that a jump out of a round goes -/
def LS.out : LS → Option Exit
  | .ret => some .ret
  | .exit id => some (.exit id)
  | _ => none
/-- the loop that a suspended frame runs -/
def lpOf : List TF → Option (Nat × Loop)
  | c :: _ => c.lp
  | [] => none

/-- what is left to do, as a property of where one stands -/
def wpK (P : Program) (R : Ending → World → Prop) : List It → List TF → List (Act → World → Prop) → Exit → Act → World → Prop
  | [], _, _ => fun _ _ _ => False
  | .top fn :: _, _, _ => endR P fn R
  | .code c :: k, T, J => Exit.then (wpR (rnd k T) P c (wpK P R k T J)) (wpK P R k T J)
  | .inBlock id :: k, T, J => Exit.inBlock id (wpK P R k T J)
  | .rounds c m :: k, T, J => Exit.then (roundsR (rnd k T) P c (wpK P R k T J) m) (wpK P R k T J)
  | .ops all rest :: k, T, J => Exit.then (wpLR (rnd k T) P all (wpK P R k T J) rest) (wpK P R k T J)
  | .back fn _ dst all rest :: k, t :: T, J => endR P fn fun e w' => ∃ v, e = .returned v ∧ wpLR (rnd k T) P all (wpK P R k T J) rest (({ tmps := t.t, defers := t.ds } : Act).put dst v) w'
  | .back _ _ _ _ _ :: _, [], _ => fun _ _ _ => False
  | .again _ _ _ _ :: k, T, j :: J => Exit.then j (wpK P R k T J)
  | .again _ _ _ _ :: _, _, [] => fun _ _ _ => False
  | .beginR :: k, T, J => Exit.then (fun a1 W1 => ∃ l r, lpOf T.tail = some (l, r) ∧ W1.heap[l]? = some (.loop r) ∧ wpK P R k T J .normal a1 (W1.putObj l (.loop { r with state := .busy }))) fun _ _ _ => False
  | .endR _ dst all rest :: k, t :: T, J => fun e a1 W1 => ∃ l r, lpOf T = some (l, r) ∧ roundR l r (fun v W => wpLR (rnd k T) P all (wpK P R k T J) rest (({ tmps := t.t, defers := t.ds } : Act).put dst v) W) e a1 W1
  | .endR _ _ _ _ :: _, [], _ => fun _ _ _ => False
  | .endl fn _ _ _ _ :: k, c :: T, J => endR P fn fun e W => ∃ l r v st pe, c.lp = some (l, r) ∧ e = .returned v ∧ st ≠ .busy ∧ W.heap[l]? = some (.loop { r with state := st, pending := pe }) ∧
      afterR P (wpK P R k T J) (markA r.defers { tmps := c.t, defers := c.ds }) (W.putObj l (.loop { r with state := .exhausted, pending := pe })) pe
  | .endl _ _ _ _ _ :: _, [], _ => fun _ _ _ => False
  | .jump j :: k, T, J => fun _ a1 W1 => ∃ e, j.out = some e ∧ wpK P R k T J e a1 W1

/-- the loops that one is in -/
def Rel (w0 : Org) (ps : List (World → Prop)) (T0 : List TF) (L : List (List Value → Prop)) (ρ : List Value) : List It → List TF → List (Act → World → Prop) → Prop
  | [], _, _ => True
  | .back _ _ _ _ _ :: k, t :: T, J => t.lp = none ∧ Rel w0 ps T0 L ρ k T J
  | .back _ _ _ _ _ :: _, [], _ => False
  | .again l an ws s0 :: k, T, j :: J => (∃ ρ0 A, L[l]? = some A ∧ ρ0 <+: ρ ∧ Good ρ0 s0 ∧ s0.Wf ρ0.length ∧ (∀ (n : Nat) (b : Blk), s0.hp[n]? = some (some b) → lv s0.ln n = true) ∧ (∀ q ∈ s0.lps, lv s0.ln q.1 = true) ∧ ∀ xs a W, A xs → Sh.fitL (an.pos.map fun e => e.2.sh) xs = true → Inv w0 ps T (ρ0 ++ xs) (freshS an ws s0) a W → j a W) ∧ Rel w0 ps T0 L ρ k T J
  | .again _ _ _ _ :: _, _, [] => False
  | .top _ :: _, T, _ => T = T0
  | .code _ :: k, T, J => Rel w0 ps T0 L ρ k T J
  | .inBlock _ :: k, T, J => Rel w0 ps T0 L ρ k T J
  | .rounds _ _ :: k, T, J => Rel w0 ps T0 L ρ k T J
  | .ops _ _ :: k, T, J => Rel w0 ps T0 L ρ k T J
  | .beginR :: k, T, J => (∃ it T', T = it :: T' ∧ it.lp = none ∧ (lpOf T').isSome = true) ∧ Rel w0 ps T0 L ρ k T J
  | .jump _ :: k, T, J => Rel w0 ps T0 L ρ k T J
  | .endR _ _ _ _ :: k, t :: T, J => t.lp = none ∧ (lpOf T).isSome = true ∧ Rel w0 ps T0 L ρ k T J
  | .endR _ _ _ _ :: _, [], _ => False
  | .endl fn _ ps' assign body :: k, c :: T, J => (∃ l r, c.lp = some (l, r) ∧ r.params = ps' ∧ r.assign = assign ∧ r.body = body) ∧ rnd k T = none ∧ Rel w0 ps T0 L ρ k T J
  | .endl _ _ _ _ _ :: _, [], _ => False

section
variable {P : Program} {R : Ending → World → Prop} {w0 : Org} {ps : List (World → Prop)} {T0 : List TF} {L L' : List (List Value → Prop)} {ρ ρ' : List Value}
theorem Rel.mono (hρ : ρ <+: ρ') (hL : L <+: L') : ∀ {k : List It} {T : List TF} {J : List (Act → World → Prop)}, Rel w0 ps T0 L ρ k T J → Rel w0 ps T0 L' ρ' k T J
  | [], _, _, _ => trivial
  | .back _ _ _ _ _ :: k, _ :: T, J, h => ⟨h.1, Rel.mono hρ hL (k := k) h.2⟩
  | .back _ _ _ _ _ :: _, [], _, h => h
  | .again l an ws s0 :: k, T, j :: J, ⟨⟨ρ0, A, h1, h2, h3⟩, h⟩ => ⟨⟨ρ0, A, by obtain ⟨r, rfl⟩ := hL; rw [List.getElem?_append_left (List.getElem?_eq_some_iff.1 h1).1]; exact h1, h2.trans hρ, h3⟩, Rel.mono hρ hL (k := k) h⟩
  | .again _ _ _ _ :: _, _, [], h => h
  | .top _ :: _, _, _, h => h
  | .code _ :: k, T, J, h => Rel.mono hρ hL (k := k) h
  | .inBlock _ :: k, T, J, h => Rel.mono hρ hL (k := k) h
  | .rounds _ _ :: k, T, J, h => Rel.mono hρ hL (k := k) h
  | .ops _ _ :: k, T, J, h => Rel.mono hρ hL (k := k) h
  | .beginR :: k, T, J, h => ⟨h.1, Rel.mono hρ hL (k := k) h.2⟩
  | .jump _ :: k, T, J, h => Rel.mono hρ hL (k := k) h
  | .endR _ _ _ _ :: k, _ :: T, J, h => ⟨h.1, h.2.1, Rel.mono hρ hL (k := k) h.2.2⟩
  | .endR _ _ _ _ :: _, [], _, h => h
  | .endl _ _ _ _ _ :: k, _ :: T, J, h => ⟨h.1, h.2.1, Rel.mono hρ hL (k := k) h.2.2⟩
  | .endl _ _ _ _ _ :: _, [], _, h => h

theorem unwind_ok {id : Nat} : ∀ {k k' : List It} {T : List TF} {J : List (Act → World → Prop)}, unwindTo id k = some k' → Rel w0 ps T0 L ρ k T J → ∃ J', Rel w0 ps T0 L ρ k' T J' ∧ ∀ a W, wpK P R k' T J' .normal a W → wpK P R k T J (.exit id) a W
  | [], _, _, _, h, _ => by simp [unwindTo] at h
  | .back _ _ _ _ _ :: k, _, _, _, h, _ => by simp [unwindTo] at h
  | .top _ :: k, _, _, _, h, _ => by simp [unwindTo] at h
  | .ops _ _ :: k, _, _, _, h, _ => by simp [unwindTo] at h
  | .beginR :: k, _, _, _, h, _ => by simp [unwindTo] at h
  | .endR _ _ _ _ :: k, _, _, _, h, _ => by simp [unwindTo] at h
  | .endl _ _ _ _ _ :: k, _, _, _, h, _ => by simp [unwindTo] at h
  | .jump _ :: k, _, _, _, h, _ => by simp [unwindTo] at h
  | .again l an ws s0 :: k, k', T, [], h, hr => hr.elim
  | .again l an ws s0 :: k, k', T, j :: J, h, hr => by
    obtain ⟨J', h1, h2⟩ := unwind_ok (k := k) (k' := k') (T := T) (J := J) (by simpa [unwindTo] using h) hr.2
    exact ⟨J', h1, fun a W hw => h2 a W hw⟩
  | .code _ :: k, k', T, J, h, hr => by
    obtain ⟨J', h1, h2⟩ := unwind_ok (k := k) (k' := k') (T := T) (J := J) (by simpa [unwindTo] using h) hr
    exact ⟨J', h1, fun a W hw => h2 a W hw⟩
  | .rounds _ _ :: k, k', T, J, h, hr => by
    obtain ⟨J', h1, h2⟩ := unwind_ok (k := k) (k' := k') (T := T) (J := J) (by simpa [unwindTo] using h) hr
    exact ⟨J', h1, fun a W hw => h2 a W hw⟩
  | .inBlock id' :: k, k', T, J, h, hr => by
    unfold unwindTo at h
    split at h
    · rename_i hid
      subst hid
      obtain rfl : k = k' := by simpa using h
      exact ⟨J, hr, fun a W hw => by simp only [wpK, Exit.inBlock, if_true]; exact hw⟩
    · rename_i hid
      obtain ⟨J', h1, h2⟩ := unwind_ok (k := k) (k' := k') (T := T) (J := J) h hr
      exact ⟨J', h1, fun a W hw => by simp only [wpK, Exit.inBlock, if_neg hid]; exact h2 a W hw⟩
theorem ret_ok : ∀ {k k' : List It} {T : List TF} {J : List (Act → World → Prop)}, retTo k = some k' → Rel w0 ps T0 L ρ k T J → ∃ J', Rel w0 ps T0 L ρ k' T J' ∧ ∀ a W, wpK P R k' T J' .normal a W → wpK P R k T J .ret a W
  | [], _, _, _, h, _ => by simp [retTo] at h
  | .back f c d a r :: k, k', t :: T, J, h, hr => by
    obtain rfl : It.back f c d a r :: k = k' := by simpa [retTo] using h
    exact ⟨J, hr, fun a W hw => hw⟩
  | .back f c d a r :: k, k', [], J, h, hr => hr.elim
  | .endl f c d a r :: k, k', t :: T, J, h, hr => by
    obtain rfl : It.endl f c d a r :: k = k' := by simpa [retTo] using h
    exact ⟨J, hr, fun a W hw => hw⟩
  | .endl f c d a r :: k, k', [], J, h, hr => hr.elim
  | .top f :: k, k', T, J, h, hr => by
    obtain rfl : It.top f :: k = k' := by simpa [retTo] using h
    exact ⟨J, hr, fun a W hw => hw⟩
  | .ops _ _ :: k, _, _, _, h, _ => by simp [retTo] at h
  | .beginR :: k, _, _, _, h, _ => by simp [retTo] at h
  | .endR _ _ _ _ :: k, _, _, _, h, _ => by simp [retTo] at h
  | .jump _ :: k, _, _, _, h, _ => by simp [retTo] at h
  | .again l an ws s0 :: k, k', T, [], h, hr => hr.elim
  | .again l an ws s0 :: k, k', T, j :: J, h, hr => by
    obtain ⟨J', h1, h2⟩ := ret_ok (k := k) (k' := k') (T := T) (J := J) (by simpa [retTo] using h) hr.2
    exact ⟨J', h1, fun a W hw => h2 a W hw⟩
  | .code _ :: k, k', T, J, h, hr => by
    obtain ⟨J', h1, h2⟩ := ret_ok (k := k) (k' := k') (T := T) (J := J) (by simpa [retTo] using h) hr
    exact ⟨J', h1, fun a W hw => h2 a W hw⟩
  | .rounds _ _ :: k, k', T, J, h, hr => by
    obtain ⟨J', h1, h2⟩ := ret_ok (k := k) (k' := k') (T := T) (J := J) (by simpa [retTo] using h) hr
    exact ⟨J', h1, fun a W hw => h2 a W hw⟩
  | .inBlock _ :: k, k', T, J, h, hr => by
    obtain ⟨J', h1, h2⟩ := ret_ok (k := k) (k' := k') (T := T) (J := J) (by simpa [retTo] using h) hr
    exact ⟨J', h1, fun a W hw => h2 a W hw⟩
/-- out of a round, by a return -/
theorem leave_ret : ∀ {k k' : List It} {T : List TF} {J : List (Act → World → Prop)}, leaveR k = some k' → Rel w0 ps T0 L ρ k T J → ∃ J', Rel w0 ps T0 L ρ k' T J' ∧ ∀ a W, wpK P R k' T J' .ret a W → wpK P R k T J .ret a W
  | [], _, _, _, h, _ => by simp [leaveR] at h
  | .back _ _ _ _ _ :: k, _, _, _, h, _ => by simp [leaveR] at h
  | .top _ :: k, _, _, _, h, _ => by simp [leaveR] at h
  | .ops _ _ :: k, _, _, _, h, _ => by simp [leaveR] at h
  | .beginR :: k, _, _, _, h, _ => by simp [leaveR] at h
  | .endl _ _ _ _ _ :: k, _, _, _, h, _ => by simp [leaveR] at h
  | .jump _ :: k, _, _, _, h, _ => by simp [leaveR] at h
  | .endR c d a r :: k, k', T, J, h, hr => by
    obtain rfl : It.endR c d a r :: k = k' := by simpa [leaveR] using h
    exact ⟨J, hr, fun a W hw => hw⟩
  | .again l an ws s0 :: k, k', T, [], h, hr => hr.elim
  | .again l an ws s0 :: k, k', T, j :: J, h, hr => by
    obtain ⟨J', h1, h2⟩ := leave_ret (k := k) (k' := k') (T := T) (J := J) (by simpa [leaveR] using h) hr.2
    exact ⟨J', h1, fun a W hw => h2 a W hw⟩
  | .code _ :: k, k', T, J, h, hr => by
    obtain ⟨J', h1, h2⟩ := leave_ret (k := k) (k' := k') (T := T) (J := J) (by simpa [leaveR] using h) hr
    exact ⟨J', h1, fun a W hw => h2 a W hw⟩
  | .rounds _ _ :: k, k', T, J, h, hr => by
    obtain ⟨J', h1, h2⟩ := leave_ret (k := k) (k' := k') (T := T) (J := J) (by simpa [leaveR] using h) hr
    exact ⟨J', h1, fun a W hw => h2 a W hw⟩
  | .inBlock _ :: k, k', T, J, h, hr => by
    obtain ⟨J', h1, h2⟩ := leave_ret (k := k) (k' := k') (T := T) (J := J) (by simpa [leaveR] using h) hr
    exact ⟨J', h1, fun a W hw => h2 a W hw⟩
/-- out of a round, to the end of a block around it -/
theorem leave_exit {id : Nat} : ∀ {k k' : List It} {T : List TF} {J : List (Act → World → Prop)}, leaveR k = some k' → unwindTo id k = none → Rel w0 ps T0 L ρ k T J → ∃ J', Rel w0 ps T0 L ρ k' T J' ∧ ∀ a W, wpK P R k' T J' (.exit id) a W → wpK P R k T J (.exit id) a W
  | [], _, _, _, h, _, _ => by simp [leaveR] at h
  | .back _ _ _ _ _ :: k, _, _, _, h, _, _ => by simp [leaveR] at h
  | .top _ :: k, _, _, _, h, _, _ => by simp [leaveR] at h
  | .ops _ _ :: k, _, _, _, h, _, _ => by simp [leaveR] at h
  | .beginR :: k, _, _, _, h, _, _ => by simp [leaveR] at h
  | .endl _ _ _ _ _ :: k, _, _, _, h, _, _ => by simp [leaveR] at h
  | .jump _ :: k, _, _, _, h, _, _ => by simp [leaveR] at h
  | .endR c d a r :: k, k', T, J, h, _, hr => by
    obtain rfl : It.endR c d a r :: k = k' := by simpa [leaveR] using h
    exact ⟨J, hr, fun a W hw => hw⟩
  | .again l an ws s0 :: k, k', T, [], h, _, hr => hr.elim
  | .again l an ws s0 :: k, k', T, j :: J, h, hu, hr => by
    obtain ⟨J', h1, h2⟩ := leave_exit (k := k) (k' := k') (T := T) (J := J) (by simpa [leaveR] using h) (by simpa [unwindTo] using hu) hr.2
    exact ⟨J', h1, fun a W hw => h2 a W hw⟩
  | .code _ :: k, k', T, J, h, hu, hr => by
    obtain ⟨J', h1, h2⟩ := leave_exit (k := k) (k' := k') (T := T) (J := J) (by simpa [leaveR] using h) (by simpa [unwindTo] using hu) hr
    exact ⟨J', h1, fun a W hw => h2 a W hw⟩
  | .rounds _ _ :: k, k', T, J, h, hu, hr => by
    obtain ⟨J', h1, h2⟩ := leave_exit (k := k) (k' := k') (T := T) (J := J) (by simpa [leaveR] using h) (by simpa [unwindTo] using hu) hr
    exact ⟨J', h1, fun a W hw => h2 a W hw⟩
  | .inBlock id' :: k, k', T, J, h, hu, hr => by
    unfold unwindTo at hu
    split at hu
    · cases hu
    · rename_i hid
      obtain ⟨J', h1, h2⟩ := leave_exit (k := k) (k' := k') (T := T) (J := J) (by simpa [leaveR] using h) hu hr
      exact ⟨J', h1, fun a W hw => by simp only [wpK, Exit.inBlock, if_neg hid]; exact h2 a W hw⟩
/-- the frame that an iterator's loop belongs to -/
theorem endl_ok : ∀ {k : List It} {T : List TF} {J : List (Act → World → Prop)} {cur : FuncId} {ps' : Array Tmp} {assign body : Code}, endlOf k = some (cur, ps', assign, body) → Rel w0 ps T0 L ρ k T J → rnd k T = none ∧ ∃ c T' l r, T = c :: T' ∧ c.lp = some (l, r) ∧ r.params = ps' ∧ r.assign = assign ∧ r.body = body
  | [], _, _, _, _, _, _, h, _ => by simp [endlOf] at h
  | .back _ _ _ _ _ :: k, _, _, _, _, _, _, h, _ => by simp [endlOf] at h
  | .top _ :: k, _, _, _, _, _, _, h, _ => by simp [endlOf] at h
  | .ops _ _ :: k, _, _, _, _, _, _, h, _ => by simp [endlOf] at h
  | .beginR :: k, _, _, _, _, _, _, h, _ => by simp [endlOf] at h
  | .endR _ _ _ _ :: k, _, _, _, _, _, _, h, _ => by simp [endlOf] at h
  | .jump _ :: k, _, _, _, _, _, _, h, _ => by simp [endlOf] at h
  | .endl f c p x y :: k, T, J, cur, ps', assign, body, h, hr => by
    simp only [endlOf, Option.some.injEq, Prod.mk.injEq] at h
    obtain ⟨rfl, rfl, rfl, rfl⟩ := h
    cases T with
    | nil => exact hr.elim
    | cons t T =>
      obtain ⟨⟨l, r, h1, h2, h3, h4⟩, _⟩ := hr
      exact ⟨rfl, t, T, l, r, rfl, h1, h2, h3, h4⟩
  | .again l an ws s0 :: k, T, [], _, _, _, _, h, hr => hr.elim
  | .again l an ws s0 :: k, T, j :: J, _, _, _, _, h, hr => endl_ok (k := k) (T := T) (J := J) (by simpa [endlOf] using h) hr.2
  | .code _ :: k, T, J, _, _, _, _, h, hr => endl_ok (k := k) (T := T) (J := J) (by simpa [endlOf] using h) hr
  | .rounds _ _ :: k, T, J, _, _, _, _, h, hr => endl_ok (k := k) (T := T) (J := J) (by simpa [endlOf] using h) hr
  | .inBlock _ :: k, T, J, _, _, _, _, h, hr => endl_ok (k := k) (T := T) (J := J) (by simpa [endlOf] using h) hr
/-- a frame that is no round -/
theorem rnd_plain : ∀ {k : List It} {T : List TF}, plainK k = true → rnd k T = none
  | [], _, h => by simp [plainK] at h
  | .back _ _ _ _ _ :: k, _, _ => rfl
  | .top _ :: k, _, _ => rfl
  | .ops _ _ :: k, _, h => by simp [plainK] at h
  | .beginR :: k, _, h => by simp [plainK] at h
  | .endl _ _ _ _ _ :: k, _, _ => rfl
  | .jump _ :: k, _, _ => rfl
  | .endR _ _ _ _ :: k, _, h => by simp [plainK] at h
  | .again _ _ _ _ :: k, T, h => by simp only [rnd]; exact rnd_plain (by simpa [plainK] using h)
  | .code _ :: k, T, h => by simp only [rnd]; exact rnd_plain (by simpa [plainK] using h)
  | .rounds _ _ :: k, T, h => by simp only [rnd]; exact rnd_plain (by simpa [plainK] using h)
  | .inBlock _ :: k, T, h => by simp only [rnd]; exact rnd_plain (by simpa [plainK] using h)
end

section
variable {C : Cx} {w0 : Org} {ps : List (World → Prop)} {T : List TF} {ρ : List Value} {s : S} {a : Act} {W : World} {α : Nat → AV}
def res1 (tmps : Array Value) : ResultVar → Sem Value
  | .tmp t => pure (tmps.getD t undef)
  | .cell a t => do loadVar t (← asAddr (tmps.getD a undef))
theorem results_eq (fn : Func) (tmps : Array Value) : results fn tmps = (do
    let vs ← fn.results.mapM (res1 tmps)
    pure (if h : vs.size = 1 then vs[0] else .tuple vs)) := rfl
theorem res1_ok (hI : InvA w0 ps T ρ s a W α) {r : ResultVar} {v : V} (h : resOf1 C.P s r = some v) : (res1 a.tmps r).run C.P W = .ok (v.den ρ α) W := by
  cases r with
  | tmp t =>
    have := look_den hI.good hI.fm (d := t) h
    simp [res1, Array.getD_eq_getD_getElem?, this]
  | cell p t =>
    unfold resOf1 at h
    dsimp only at h
    split at h
    · rename_i n o hp
      have hp' := look_den hI.good hI.fm hp
      have hb' : ∀ b, ((s.hp[n]?).join).bind cellsB = some b → s.hp[n]? = some (some b) ∧ b.k = .cells := fun b hb => by
        obtain ⟨b0, hb2, hb0⟩ := Option.bind_eq_some_iff.1 hb
        obtain ⟨e, hk⟩ := cellsB_eq hb0
        subst e
        refine ⟨?_, hk⟩
        cases hq : s.hp[n]? with
        | none => simp [hq] at hb2
        | some u => simp [hq] at hb2; rw [hb2]
      split at h
      · rename_i b sz hb hr hs
        split at h
        · rename_i hlt
          obtain rfl := by simpa using h
          have hm := hI.st.at_ (hI.blk (hb' b hb).1 (hb' b hb).2)
          have := run_load_sub (P := C.P) (off := o) (n := sz) hm hr hs (by simpa [denL_len] using hlt)
          simp only [res1, Array.getD_eq_getD_getElem?, hp', Option.getD_some, V.den, asAddr, Sem.run_bind, Sem.run_pure, Result.andThen_ok, this]
          rw [ext_eq, denL_drop]
        · cases h
      · rename_i b hb hr
        have hm := hI.st.at_ (hI.blk (hb' b hb).1 (hb' b hb).2)
        have := run_load_one (P := C.P) (off := o) (v := v.den ρ α) hm hr (by simpa using denL_at (ρ := ρ) (α := α) h)
        simp only [res1, Array.getD_eq_getD_getElem?, hp', Option.getD_some, V.den, asAddr, Sem.run_bind, Sem.run_pure, Result.andThen_ok, this]
      · cases h
    · cases h
end
section
variable {C : Cx} {w0 : Org} {ps : List (World → Prop)} {T T0 : List TF} {ρ : List Value} {s : S} {a : Act} {W : World} {α : Nat → AV} {R : Ending → World → Prop} {L : List (List Value → Prop)}
/-- another symbol for a value -/
theorem InvA.pput (hI : InvA w0 ps T ρ s a W α) {p : Pos} {u v : V} (hg : p.get s = some u) (hd : v.den ρ α = u.den ρ α) (hw : v.wf s.ln ρ.length = true) : InvA w0 ps T ρ (p.put s v) a W α := by
  cases p with
  | s d =>
    have hl := look_den hI.good hI.fm hg
    refine ⟨hI.defers, ⟨hI.good.len, hI.good.fit, hI.good.kn⟩, ⟨fun x hx => ?_, hI.wf.stk, hI.wf.hp, hI.wf.ln⟩, ⟨by simp [Pos.put, hI.fm.1], fun d' x hx => ?_⟩, hI.fms, hI.st, hI.rows, hI.lens⟩
    · rcases mem_set hx with h | h
      · obtain rfl : x = v := by simpa using h
        exact hw
      · exact hI.wf.fr x h
    · simp only [Pos.put, List.getElem?_set] at hx
      split at hx
      · rename_i e
        subst e
        split at hx
        · obtain rfl : v = x := by simpa using hx
          rw [hl, hd]
        · cases hx
      · exact hI.fm.2 d' x hx
  | c n k =>
    simp only [Pos.get] at hg
    obtain ⟨b, hb, hk⟩ := Option.bind_eq_some_iff.1 hg
    obtain ⟨b0, hb0, hb1⟩ := Option.bind_eq_some_iff.1 hb
    obtain ⟨rfl, hbk⟩ := cmB_eq hb1
    have hn := join_some hb0
    have hput : (Pos.c n k).put s v = { s with hp := s.hp.set n (some ⟨b0.c.set k v, b0.t, b0.k⟩) } := by simp only [Pos.put, hb]
    rw [hput]
    have hden : denL ρ α (b0.c.set k v) = denL ρ α b0.c := by
      apply List.ext_getElem?
      intro i
      rw [denL_map, denL_map, List.getElem?_map, List.getElem?_map, List.getElem?_set]
      split
      · rename_i e
        subst e
        split
        · rw [hk]; simp [hd]
        · rename_i hlt
          rw [List.getElem?_eq_none (by omega)]
      · rfl
    have hch : ∀ m, (⟨b0.c.set k v, b0.t, b0.k⟩ : Blk).ch ρ α m = b0.ch ρ α m := fun m => by rcases hbk with hbk | ⟨k9, ag9, hbk⟩ <;> simp only [Blk.ch, Blk.xs, hbk, hden]
    have hc : chs ρ α 0 (s.hp.set n (some ⟨b0.c.set k v, b0.t, b0.k⟩)) = chs ρ α 0 s.hp := by
      obtain ⟨l1, l2, q1, q2⟩ := chs_split (ρ := ρ) (α := α) (k := 0) hn
      rw [q2, q1]
      simp only [Option.bind_some, hch]
    refine ⟨hI.defers, ⟨hI.good.len, hI.good.fit, hI.good.kn⟩, ⟨hI.wf.fr, hI.wf.stk, fun d hd' => ?_, hI.wf.ln⟩, hI.fm, hI.fms, ?_, fun m c hm => ?_, hI.lens⟩
    · rcases mem_set hd' with h | h
      · obtain rfl : d = ⟨b0.c.set k v, b0.t, b0.k⟩ := by simpa using h
        refine wfL_of fun x hx => ?_
        rcases List.mem_or_eq_of_mem_set hx with h | h
        · exact wfL_mem (hI.wf.hp b0 (List.mem_of_getElem? hn)) x h
        · subst h; exact hw
      · exact hI.wf.hp d h
    · show St w0 (chs ρ α 0 (s.hp.set n (some ⟨b0.c.set k v, b0.t, b0.k⟩))) (osA a s T) _ W
      rw [hc]
      refine st_ps hI.st (app_sub (exs_sub fun m c hm => ?_))
      rcases set_cases hm with ⟨rfl, rfl⟩ | ⟨_, h⟩
      · exact .inl (by rcases hbk with hbk | ⟨k9, ag9, hbk⟩ <;> simp [Blk.own, hbk])
      · exact .inr ⟨c, h, rfl⟩
    · rcases set_cases hm with ⟨rfl, rfl⟩ | ⟨_, h⟩
      · exact ⟨hI.live _ _ hn, by rcases hbk with hbk | ⟨k9, ag9, hbk⟩ <;> simp [Blk.rowOk, hbk]⟩
      · exact hI.rows m c h
theorem get_make {p : Pos} {u : V} {sh : List Sh} {b : Blk} (hg : p.get s = some u) : p.get ({ (s.room 1) with sh := sh }.make s.hp.length b) = some u := by
  cases p with
  | s d => exact hg
  | c n k =>
    simp only [Pos.get] at hg ⊢
    obtain ⟨b1, hb, hk⟩ := Option.bind_eq_some_iff.1 hg
    obtain ⟨b0, hb0, hb1⟩ := Option.bind_eq_some_iff.1 hb
    have hn := join_some hb0
    have hlt := (List.getElem?_eq_some_iff.1 hn).1
    have : ({ (s.room 1) with sh := sh }.make s.hp.length b).hp[n]? = some (some b0) := by
      simp only [S.make, S.room]
      rw [List.getElem?_set_ne (by omega), List.getElem?_append_left hlt]
      exact hn
    rw [this]
    simp only [Option.join_some, Option.bind_some, hb1, hk]
theorem freeAt_in {s : S} {n : Nat} (h : freeAt s n = true) : freeIn s n := by
  unfold freeAt at h
  split at h
  · exact ⟨by assumption, by assumption⟩
  · cases h
theorem lv_made {s : S} {n : Nat} {b : Blk} (h : freeIn s n) : lv (s.ln.set n (some b)) n = true := by
  refine lv_iff.2 ⟨b, ?_⟩
  rw [List.getElem?_set, if_pos rfl, if_pos (List.getElem?_eq_some_iff.1 h.2).1]
theorem sl_one {l : List Value} {v : Value} {k : Nat} (h : l[k]? = some v) : l.getD k undef = v := by simp [List.getD_eq_getElem?_getD, h]
theorem settle_ok (hps : Ctx C w0 ps) {Gl : Prop} : ∀ (l : List (Pos × HK)) (s : S) (ρ : List Value) (k : S → Tree), VC C w0 ps T0 R L ρ (settle s l k) → Inv w0 ps T ρ s a W → (∀ s' ρ', VC C w0 ps T0 R L ρ' (k s') → ρ <+: ρ' → Inv w0 ps T ρ' s' a W → Gl) → Gl
  | [], s, ρ, k, hv, hI, h => h s ρ hv (List.prefix_refl _) hI
  | (p, .one) :: l, s, ρ, k, hv, hI, h => settle_ok hps l s ρ k (by simpa only [settle] using hv) hI h
  | (p, .ag n) :: l, s, ρ, k, hv, hI, h => settle_ok hps l s ρ k (by simpa only [settle] using hv) hI h
  | (p, .any) :: l, s, ρ, k, hv, hI, h => settle_ok hps l s ρ k (by simpa only [settle] using hv) hI h
  | (p, .row sz e) :: l, s, ρ, k, hv, hI, h => by
    simp only [settle] at hv
    split at hv
    · rename_i hg
      split at hv
      · rename_i hc
        simp only [Bool.and_eq_true, decide_eq_true_eq] at hc
        obtain ⟨α, hA⟩ := hI
        obtain ⟨α', h1, h2, h3⟩ := (hA.room 1).new' (b := ⟨[], e, .row sz⟩) (freeAt_in hc.2) rfl (W' := W) ⟨0, .slice none 0 0, []⟩ fun α' q1 q2 q3 q4 => by
          refine ⟨?_, hc.1, .inl ⟨rfl, by rw [q1]⟩⟩
          rw [chs_new0 (k := 0) (freeAt_in hc.2).1 (by simp only [Blk.ch, Nat.zero_add, q1]), q4]
          exact (hA.room 1).st
        have h4 := h3.pput (p := p) (u := .k (.slice none 0 0)) (v := .row s.hp.length) (get_make (s := s) (sh := s.sh) hg) (by simp only [V.den, h1]) (by
          show lv ((s.room 1).ln.set s.hp.length _) s.hp.length = true
          exact lv_made (freeAt_in hc.2))
        exact settle_ok hps l _ ρ k hv ⟨α', h4⟩ h
      · simp [VC] at hv
    · exact settle_ok hps l s ρ k hv hI h
  | (p, .ext sz) :: l, s, ρ, k, hv, hI, h => by
    simp only [settle] at hv
    split at hv
    · rename_i i q hg
      split at hv
      · rename_i hc
        simp only [Bool.and_eq_true, decide_eq_true_eq] at hc
        obtain ⟨⟨h0, hi⟩, hfr⟩ := hc
        simp only [VC] at hv
        obtain ⟨v, hrel, hfit, hv⟩ := hv
        obtain ⟨α, hA⟩ := hI
        obtain ⟨cells, ⟨A, n, c, hx, hnc⟩, hK, hAl, rfl⟩ := hrel α
        have hA1 := (hA.room 1).ext (h := .any) (v := .agg cells.toArray) rfl
        have hKf : ∀ W2, Same (muts (chs (ρ ++ [.agg cells.toArray]) α 0 (s.room 1).hp) (osA a s T)) W W2 → Kf C W2 := fun W2 h2 => hA1.st.pers _ (List.mem_append.2 (.inr hps.1)) W2 h2
        have hsl : (ρ ++ [Value.agg cells.toArray]).getD s.sh.length undef = Value.agg cells.toArray := by rw [hA.good.len]; simp
        have hxs : (⟨[.x s.sh.length []], 0, .ext sz⟩ : Blk).xs (ρ ++ [.agg cells.toArray]) α = cells := by
          simp only [Blk.xs, denL, V.den, List.foldl_nil, hsl, List.flatMap_cons, List.flatMap_nil, cellsV, List.append_nil]
        have hrd : ∀ W2, C.K (.slice A n c) sz cells → Kf C W2 → Arg.rd W2 ⟨.slice A n c, sz, cells⟩ := fun W2 h1 h2 => h2 _ _ _ h1
        rw [hx] at hK hAl
        have hR := hrd W hK (hA.fact hps.1)
        have hR' : Rd W sz A n cells := hR.1
        obtain ⟨α', h1, h2, h3⟩ := hA1.newE (b := ⟨[.x s.sh.length []], 0, .ext sz⟩) (freeAt_in hfr) rfl (by
          simp only [wfL, V.wf, Bool.and_true, decide_eq_true_eq, List.length_append, List.length_cons, List.length_nil]
          rw [hA.good.len]; omega) (W' := W) ⟨0, .slice A n c, []⟩ hA1.st h0 ⟨A, n, c, rfl, by rw [hxs]; exact hR'.1, hnc, fun hn => by
            obtain ⟨ad, e, _⟩ := hR'.2 hn
            rw [e]; rfl⟩ fun W2 h2 => by
            rw [hxs]
            exact ⟨hrd W2 hK (hKf W2 h2), .inr ⟨fun W3 h3 => hps.2.1 W3 h3 _ _ _ hAl, fun B hB => hps.2.2 B hB _ _ _ hAl⟩⟩
        have hwfx : (V.x i q).wf s.ln ρ.length = true := by
          simp only [V.wf, decide_eq_true_eq]; rw [← hA.good.len]; exact hi
        have h4 := h3.pput (p := p) (u := .x i q) (v := .row s.hp.length) (get_make (s := s) (sh := s.sh ++ [.any]) hg) (by
          simp only [V.den, h1]
          rw [← hx]
          have := den_pre (ρ0 := ρ) (ρ := ρ ++ [.agg cells.toArray]) (α := α) ⟨_, rfl⟩ hwfx
          simp only [V.den] at this
          exact this.symm) (by
          show lv ((s.room 1).ln.set s.hp.length _) s.hp.length = true
          exact lv_made (freeAt_in hfr))
        exact settle_ok hps l _ _ k hv ⟨α', h4⟩ fun s' ρ' g1 g2 g3 => h s' ρ' g1 (List.IsPrefix.trans ⟨_, rfl⟩ g2) g3
      · simp [VC] at hv
    · rename_i c hg
      split at hv
      · rename_i hc
        simp only [Bool.and_eq_true, decide_eq_true_eq] at hc
        obtain ⟨α, hA⟩ := hI
        have hrd : ∀ W3, Arg.rd W3 ⟨.slice none 0 c, sz, []⟩ := fun W3 => rd_empty
        obtain ⟨α', h1, h2, h3⟩ := (hA.room 1).newE (b := ⟨[], 0, .ext sz⟩) (freeAt_in hc.2) rfl rfl (W' := W) ⟨0, .slice none 0 c, []⟩ (hA.room 1).st hc.1 ⟨none, 0, c, rfl, by simp [Blk.xs, denL], Nat.zero_le _, fun h => absurd h (by omega)⟩ fun W2 h2 => ⟨hrd W2, .inr ⟨fun W3 _ => hrd W3, fun B _ ad n c e _ => by cases e⟩⟩
        have h4 := h3.pput (p := p) (u := .k (.slice none 0 c)) (v := .row s.hp.length) (get_make (s := s) (sh := s.sh) hg) (by simp only [V.den, h1]) (by
          show lv ((s.room 1).ln.set s.hp.length _) s.hp.length = true
          exact lv_made (freeAt_in hc.2))
        exact settle_ok hps l _ ρ k hv ⟨α', h4⟩ h
      · simp [VC] at hv
    · exact settle_ok hps l s ρ k hv hI h
end
end SX
end Go.Proofs.Ytmkigejhgpoleaa
