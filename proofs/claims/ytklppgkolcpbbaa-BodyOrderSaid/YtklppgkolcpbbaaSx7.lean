/-
  A symbolic executor, seventh part: a tree that holds says what the code does.
-/
import Derived.Test.YtklppgkolcpbbaaSx6
namespace Go.Proofs.Ytklppgkolcpbbaa
set_option linter.unusedSimpArgs false
set_option linter.unusedVariables false
open Go Go.RowKit
namespace SX

theorem wp_loop_ghost {P : Program} {γ : Type} {c : Code} {Q : Exit → Act → World → Prop} {a : Act} {w : World} (I : γ → Act → World → Prop) (μ : γ → Nat) (g0 : γ) (h0 : I g0 a w)
    (round : ∀ g a w, I g a w → c.wp P (Exit.then (fun a' w' => ∃ g', I g' a' w' ∧ μ g' < μ g) Q) a w) : (Code.loop c).wp P Q a w := by
  intro b k cs
  have key : ∀ n g a w, μ g = n → I g a w →
      ∃ e a' w', Q e a' w' ∧ Arrives P (lone (b.at a (.code c :: .inLoop c :: k)) cs w) b k cs e a' w' := by
    intro n
    induction n using Nat.strongRecOn with
    | _ n ih =>
      intro g a w hn hI
      obtain ⟨e, a₁, w₁, hq, harr⟩ := round g a w hI b (.inLoop c :: k) cs
      cases e with
      | normal =>
        obtain ⟨g', hI₁, hlt⟩ := hq
        obtain ⟨e₂, a₂, w₂, hq₂, harr₂⟩ := ih (μ g') (hn ▸ hlt) g' a₁ w₁ rfl hI₁
        exact ⟨e₂, a₂, w₂, hq₂, .of_steps (Steps.trans harr (.one step_inLoop)) harr₂⟩
      | exit id => exact ⟨_, a₁, w₁, hq, .pass (x := .inLoop c) rfl (fun _ _ => .inl (by simp)) harr⟩
      | goto l => exact ⟨_, a₁, w₁, hq, .pass (x := .inLoop c) rfl (fun _ _ => .inl (by simp)) harr⟩
      | ret => exact ⟨_, a₁, w₁, hq, .pass (x := .inLoop c) rfl (fun _ _ => .inl (by simp)) harr⟩
      | panic ch => exact ⟨_, a₁, w₁, hq, .pass (x := .inLoop c) rfl (fun _ _ => .inl (by simp)) harr⟩
      | outgrown => exact ⟨_, a₁, w₁, hq, .pass (x := .inLoop c) rfl (fun _ _ => .inl (by simp)) harr⟩
  obtain ⟨e, a', w', hq, harr⟩ := key _ g0 a w rfl h0
  exact ⟨e, a', w', hq, .of_steps (.one step_loop) harr⟩

/-- what is left to do, as a property of where one stands -/
def wpK (P : Program) (R : Ending → World → Prop) : List It → List (Array Value) → List (Act → World → Prop) → Exit → Act → World → Prop
  | [], _, _ => fun _ _ _ => False
  | .top fn :: _, _, _ => bodyPost P fn R
  | .code c :: k, T, J => Exit.then (c.wp P (wpK P R k T J)) (wpK P R k T J)
  | .inBlock id :: k, T, J => Exit.inBlock id (wpK P R k T J)
  | .rounds c m :: k, T, J => Exit.then (Code.rounds P c (wpK P R k T J) m) (wpK P R k T J)
  | .ops all rest :: k, T, J => Exit.then (wpList P all (wpK P R k T J) rest) (wpK P R k T J)
  | .back fn _ dst all rest :: k, t :: T, J => bodyPost P fn fun e w' => ∃ v, e = .returned v ∧ wpList P all (wpK P R k T J) rest (({ tmps := t, defers := [] } : Act).put dst v) w'
  | .back _ _ _ _ _ :: _, [], _ => fun _ _ _ => False
  | .again _ _ _ _ :: k, T, j :: J => Exit.then j (wpK P R k T J)
  | .again _ _ _ _ :: _, _, [] => fun _ _ _ => False

/-- the loops that one is in -/
def Rel (w0 : Org) (ps : List (World → Prop)) (T0 : List (Array Value)) (L : List (List Value → Prop)) (ρ : List Value) : List It → List (Array Value) → List (Act → World → Prop) → Prop
  | [], _, _ => True
  | .back _ _ _ _ _ :: k, _ :: T, J => Rel w0 ps T0 L ρ k T J
  | .back _ _ _ _ _ :: _, [], _ => False
  | .again l an ws s0 :: k, T, j :: J => (∃ ρ0 A, L[l]? = some A ∧ ρ0 <+: ρ ∧ Good ρ0 s0 ∧ s0.Wf ρ0.length ∧ (∀ (n : Nat) (b : Blk), s0.hp[n]? = some (some b) → lv s0.ln n = true) ∧ ∀ xs a W, A xs → xs.length = an.slots.length + an.cells.length → Inv w0 ps T (ρ0 ++ xs) (freshS an ws s0) a W → xs.all (·.oneCell') = true → j a W) ∧ Rel w0 ps T0 L ρ k T J
  | .again _ _ _ _ :: _, _, [] => False
  | .top _ :: _, T, _ => T = T0
  | .code _ :: k, T, J => Rel w0 ps T0 L ρ k T J
  | .inBlock _ :: k, T, J => Rel w0 ps T0 L ρ k T J
  | .rounds _ _ :: k, T, J => Rel w0 ps T0 L ρ k T J
  | .ops _ _ :: k, T, J => Rel w0 ps T0 L ρ k T J

section
variable {P : Program} {R : Ending → World → Prop} {w0 : Org} {ps : List (World → Prop)} {T0 : List (Array Value)} {L L' : List (List Value → Prop)} {ρ ρ' : List Value}
theorem Rel.mono (hρ : ρ <+: ρ') (hL : L <+: L') : ∀ {k : List It} {T : List (Array Value)} {J : List (Act → World → Prop)}, Rel w0 ps T0 L ρ k T J → Rel w0 ps T0 L' ρ' k T J
  | [], _, _, _ => trivial
  | .back _ _ _ _ _ :: k, _ :: T, J, h => Rel.mono hρ hL (k := k) h
  | .back _ _ _ _ _ :: _, [], _, h => h
  | .again l an ws s0 :: k, T, j :: J, ⟨⟨ρ0, A, h1, h2, h3⟩, h⟩ => ⟨⟨ρ0, A, by obtain ⟨r, rfl⟩ := hL; rw [List.getElem?_append_left (List.getElem?_eq_some_iff.1 h1).1]; exact h1, h2.trans hρ, h3⟩, Rel.mono hρ hL (k := k) h⟩
  | .again _ _ _ _ :: _, _, [], h => h
  | .top _ :: _, _, _, h => h
  | .code _ :: k, T, J, h => Rel.mono hρ hL (k := k) h
  | .inBlock _ :: k, T, J, h => Rel.mono hρ hL (k := k) h
  | .rounds _ _ :: k, T, J, h => Rel.mono hρ hL (k := k) h
  | .ops _ _ :: k, T, J, h => Rel.mono hρ hL (k := k) h

theorem unwind_ok {id : Nat} : ∀ {k k' : List It} {T : List (Array Value)} {J : List (Act → World → Prop)}, unwindTo id k = some k' → Rel w0 ps T0 L ρ k T J → ∃ J', Rel w0 ps T0 L ρ k' T J' ∧ ∀ a W, wpK P R k' T J' .normal a W → wpK P R k T J (.exit id) a W
  | [], _, _, _, h, _ => by simp [unwindTo] at h
  | .back _ _ _ _ _ :: k, _, _, _, h, _ => by simp [unwindTo] at h
  | .top _ :: k, _, _, _, h, _ => by simp [unwindTo] at h
  | .ops _ _ :: k, _, _, _, h, _ => by simp [unwindTo] at h
  | .again l an ws s0 :: k, k', T, [], h, hr => hr.elim
  | .again l an ws s0 :: k, k', T, j :: J, h, hr => by
    obtain ⟨J', h1, h2⟩ := unwind_ok (k := k) (k' := k') (T := T) (J := J) (by simpa [unwindTo] using h) hr.2
    exact ⟨J', h1, fun a W hw => h2 a W hw⟩
  | .code _ :: k, k', T, J, h, hr => by
    obtain ⟨J', h1, h2⟩ := unwind_ok (k := k) (k' := k') (T := T) (J := J) (by simpa [unwindTo] using h) hr
    exact ⟨J', h1, fun a W hw => h2 a W hw⟩
  | .rounds _ _ :: k, k', T, J, h, hr => by
    obtain ⟨J', h1, h2⟩ := unwind_ok (k := k) (k' := k') (T := T) (J := J) (by simpa [unwindTo] using h) hr
    exact ⟨J', h1, fun a W hw => h2 a W hw⟩
  | .inBlock id' :: k, k', T, J, h, hr => by
    unfold unwindTo at h
    split at h
    · rename_i hid
      subst hid
      obtain rfl : k = k' := by simpa using h
      exact ⟨J, hr, fun a W hw => by simp only [wpK, Exit.inBlock, if_true]; exact hw⟩
    · rename_i hid
      obtain ⟨J', h1, h2⟩ := unwind_ok (k := k) (k' := k') (T := T) (J := J) h hr
      exact ⟨J', h1, fun a W hw => by simp only [wpK, Exit.inBlock, if_neg hid]; exact h2 a W hw⟩
theorem ret_ok : ∀ {k k' : List It} {T : List (Array Value)} {J : List (Act → World → Prop)}, retTo k = some k' → Rel w0 ps T0 L ρ k T J → ∃ J', Rel w0 ps T0 L ρ k' T J' ∧ ∀ a W, wpK P R k' T J' .normal a W → wpK P R k T J .ret a W
  | [], _, _, _, h, _ => by simp [retTo] at h
  | .back f c d a r :: k, k', t :: T, J, h, hr => by
    obtain rfl : It.back f c d a r :: k = k' := by simpa [retTo] using h
    exact ⟨J, hr, fun a W hw => hw⟩
  | .back f c d a r :: k, k', [], J, h, hr => hr.elim
  | .top f :: k, k', T, J, h, hr => by
    obtain rfl : It.top f :: k = k' := by simpa [retTo] using h
    exact ⟨J, hr, fun a W hw => hw⟩
  | .ops _ _ :: k, _, _, _, h, _ => by simp [retTo] at h
  | .again l an ws s0 :: k, k', T, [], h, hr => hr.elim
  | .again l an ws s0 :: k, k', T, j :: J, h, hr => by
    obtain ⟨J', h1, h2⟩ := ret_ok (k := k) (k' := k') (T := T) (J := J) (by simpa [retTo] using h) hr.2
    exact ⟨J', h1, fun a W hw => h2 a W hw⟩
  | .code _ :: k, k', T, J, h, hr => by
    obtain ⟨J', h1, h2⟩ := ret_ok (k := k) (k' := k') (T := T) (J := J) (by simpa [retTo] using h) hr
    exact ⟨J', h1, fun a W hw => h2 a W hw⟩
  | .rounds _ _ :: k, k', T, J, h, hr => by
    obtain ⟨J', h1, h2⟩ := ret_ok (k := k) (k' := k') (T := T) (J := J) (by simpa [retTo] using h) hr
    exact ⟨J', h1, fun a W hw => h2 a W hw⟩
  | .inBlock _ :: k, k', T, J, h, hr => by
    obtain ⟨J', h1, h2⟩ := ret_ok (k := k) (k' := k') (T := T) (J := J) (by simpa [retTo] using h) hr
    exact ⟨J', h1, fun a W hw => h2 a W hw⟩
end

section
variable {C : Cx} {w0 : Org} {ps : List (World → Prop)} {T : List (Array Value)} {ρ : List Value} {s : S} {a : Act} {W : World} {α : Nat → AV}
def res1 (tmps : Array Value) : ResultVar → Sem Value
  | .tmp t => pure (tmps.getD t undef)
  | .cell a t => do loadVar t (← asAddr (tmps.getD a undef))
theorem results_eq (fn : Func) (tmps : Array Value) : results fn tmps = (do
    let vs ← fn.results.mapM (res1 tmps)
    pure (if h : vs.size = 1 then vs[0] else .tuple vs)) := rfl
theorem res1_ok (hI : InvA w0 ps T ρ s a W α) {r : ResultVar} {v : V} (h : resOf1 C.P s r = some v) : (res1 a.tmps r).run C.P W = .ok (v.den ρ α) W := by
  cases r with
  | tmp t =>
    have := look_den hI.good hI.fm (d := t) h
    simp [res1, Array.getD_eq_getD_getElem?, this]
  | cell p t =>
    unfold resOf1 at h
    dsimp only at h
    split at h
    · rename_i n o hp
      have hp' := look_den hI.good hI.fm hp
      have hb' : ∀ b, ((s.hp[n]?).join).bind cellsB = some b → s.hp[n]? = some (some b) ∧ b.k = .cells := fun b hb => by
        obtain ⟨b0, hb2, hb0⟩ := Option.bind_eq_some_iff.1 hb
        obtain ⟨e, hk⟩ := cellsB_eq hb0
        subst e
        refine ⟨?_, hk⟩
        cases hq : s.hp[n]? with
        | none => simp [hq] at hb2
        | some u => simp [hq] at hb2; rw [hb2]
      split at h
      · rename_i b sz hb hr hs
        split at h
        · rename_i hlt
          obtain rfl := by simpa using h
          have hm := hI.st.at_ (hI.blk (hb' b hb).1 (hb' b hb).2)
          have := run_load_sub (P := C.P) (off := o) (n := sz) hm hr hs (by simpa [denL_len] using hlt)
          simp only [res1, Array.getD_eq_getD_getElem?, hp', Option.getD_some, V.den, asAddr, Sem.run_bind, Sem.run_pure, Result.andThen_ok, this]
          rw [ext_eq, denL_drop]
        · cases h
      · rename_i b hb hr
        have hm := hI.st.at_ (hI.blk (hb' b hb).1 (hb' b hb).2)
        have := run_load_one (P := C.P) (off := o) (v := v.den ρ α) hm hr (by simpa using denL_at (ρ := ρ) (α := α) h)
        simp only [res1, Array.getD_eq_getD_getElem?, hp', Option.getD_some, V.den, asAddr, Sem.run_bind, Sem.run_pure, Result.andThen_ok, this]
      · cases h
    · cases h
end
end SX
end Go.Proofs.Ytklppgkolcpbbaa
