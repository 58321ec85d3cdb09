/-
  A symbolic executor, ninth part: a call.
-/
import Derived.Test.YtklppgkolcpbbaaSx8
namespace Go.Proofs.Ytklppgkolcpbbaa
set_option linter.unusedSimpArgs false
set_option linter.unusedVariables false
open Go Go.RowKit
namespace SX

theorem Kf_none {C : Cx} (h : ∀ s sz cells, ¬ C.K s sz cells) (W : World) : Kf C W := fun s sz cells hk => (h s sz cells hk).elim
theorem fitL_get {sh : List Sh} {ρ : List Value} (h : Sh.fitL sh ρ = true) : sh.length = ρ.length ∧ ∀ (i : Nat) (s : Sh), sh[i]? = some s → s.fit (ρ.getD i undef) = true := by
  refine ⟨?_, fun i s hs => ?_⟩
  · induction sh generalizing ρ with
    | nil => cases ρ <;> simp [Sh.fitL] at h ⊢
    | cons s l ih => cases ρ with
      | nil => simp [Sh.fitL] at h
      | cons v r =>
        simp only [Sh.fitL, Bool.and_eq_true] at h
        simp [ih h.2]
  · obtain ⟨v, h1, h2⟩ := fitL_at h hs
    rw [List.getD_eq_getElem?_getD, h1]
    exact h2
theorem calls_of_run {C : Cx} {G : Cfg} {R : Ending → World → Prop} {f : FuncId} {fn : Func} {body : Code} {args : List V} {sh : List Sh} {ρ : List Value} {w : World} {vals : Array Value} (n : Nat) (t : Tree) (hC : C.Ok) (hf : C.P.funcs[f]? = some fn) (hb : fn.body = some body) (ht : run C G n 0 (door f fn args sh) [.code body, .top fn] = t)
    (hd : doorOk fn args sh = true) (hfit : Sh.fitL sh ρ = true) (hvals : (denL ρ (fun _ => default) args).toArray = vals) (hK : ∀ W', Same [] w W' → Kf C W') (hv : VC C w [Kf C] [] R [] ρ t) : Calls C.P f vals w R := by
  subst ht
  subst hvals
  refine calls_of_wp hf hb ?_
  simp only [doorOk, Bool.and_eq_true, decide_eq_true_eq] at hd
  obtain ⟨hl, hg⟩ := fitL_get hfit
  have hI : Inv w [Kf C] [] ρ (door f fn args sh) { tmps := (denL ρ (fun _ => default) args).toArray ++ Array.replicate (fn.ntmps - (denL ρ (fun _ => default) args).toArray.size) undef, defers := [] } w := by
    refine ⟨fun _ => default, rfl, ⟨hl, hg, fun e he => nomatch he⟩, ⟨fun v hv' => ?_, fun f hf => (nomatch hf), (fun b hb => nomatch hb), (fun b hb => nomatch hb)⟩, ⟨by simp [door, denL_len], fun d v hd' => ?_⟩, trivial, ?_, ?_, ?_⟩
    · rcases List.mem_append.1 hv' with h | h
      · obtain ⟨u, hu, e⟩ := List.mem_map.1 h
        obtain rfl : u = v := by simpa using e
        rw [← hl]
        exact wfL_mem hd.2 u hu
      · have := List.eq_of_mem_replicate h
        cases this
        rfl
    · rw [Array.getElem?_append]
      simp only [List.size_toArray, denL_len]
      simp only [door] at hd'
      by_cases hlt : d < args.length
      · rw [List.getElem?_append_left (by simpa using hlt), List.getElem?_map, List.getElem?_eq_getElem hlt] at hd'
        simp only [Option.map_some, Option.some.injEq] at hd'
        rw [if_pos hlt]
        simpa using denL_at (ρ := ρ) (α := fun _ => default) (by rw [List.getElem?_eq_getElem hlt, hd'])
      · rw [List.getElem?_append_right (by simpa using hlt), List.getElem?_replicate] at hd'
        rw [if_neg hlt, Array.getElem?_replicate]
        simp only [List.length_map] at hd'
        split at hd'
        · rename_i h9
          rw [if_pos h9]
          cases hd'
          rfl
        · cases hd'
    · exact (St.start w).keep0 hK
    · exact fun n b h => nomatch h
    · exact fun n b h => nomatch h
  have := run_ok hC (List.mem_cons_self ..) n w [] R G 0 (door f fn args sh) [.code body, .top fn] [] [] [] ρ _ w hv rfl rfl hI
  exact this
/-- what most functions say: the value, and the old blocks are as they were -/
def Ret (w : World) (u : Value) (e : Ending) (w' : World) : Prop := e = .returned u ∧ Below w.heap.size w w'
theorem St.ret {w : World} {hs : List Ch} {os : List Ow} {ps : List (World → Prop)} {W : World} {u v : Value} (h : St w hs os ps W) (hu : v = u) : Ret w u (.returned v) W := ⟨by rw [hu], h.below⟩
end SX
end Go.Proofs.Ytklppgkolcpbbaa
