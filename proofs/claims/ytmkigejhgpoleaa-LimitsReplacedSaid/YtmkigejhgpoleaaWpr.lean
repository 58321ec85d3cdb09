/-
  A range over a function, walked in line: the statement's law, a round's law, a function's return where such loops have left their marks.
-/
import Derived.Test.YtmkigejhgpoleaaWp
namespace Go.Proofs.Ytmkigejhgpoleaa
set_option linter.unusedSimpArgs false
set_option linter.unusedVariables false
open Go Go.RowKit
section
variable {P : Program} {K : Act → World → Prop} {Q : Exit → Act → World → Prop} {a : Act} {w : World}

/-- the activation with one more mark -/
def markA (D : Nat) (a : Act) : Act := { a with defers := { target := .collected D, args := #[] } :: a.defers }
/-- what is left to do behind a loop -/
def afterR (P : Program) (Q : Exit → Act → World → Prop) (a : Act) (W : World) : Option Code → Prop
  | none => Q .normal a W
  | some c => wpR none P c Q a W
/-- the worlds in which the iterator begins -/
def rangeW (w : World) (r : Loop) : World := (w.alloc (.deferred (some []))).alloc (.loop r)

theorem wpR_range {g : Operand} {ps : Array Tmp} {assign body : Code} {gf : Nat} {lb : Array Value} (hg : a.eval g = .func (.func gf) #[] lb) (eg : ∀ args w, (callFunc gf args).run P w = .ok (.enter gf args) w)
    (h : ∀ r : Loop, r.state = .ready → r.pending = none → r.tmps = a.tmps → r.params = ps → r.assign = assign → r.body = body → r.defers = w.heap.size →
      Calls P gf (#[.func (.yield (w.heap.size + 1)) #[] #[]] ++ lb) (rangeW w r) fun e W => ∃ v st pe, e = .returned v ∧ st ≠ .busy ∧ W.heap[w.heap.size + 1]? = some (.loop { r with state := st, pending := pe }) ∧
        afterR P Q (markA w.heap.size a) (W.putObj (w.heap.size + 1) (.loop { r with state := .exhausted, pending := pe })) pe) :
    wpR none P (.rangeFunc g ps assign body) Q a w := by
  refine wpIn_rangeFunc ?_
  intro fn hfn
  rw [show (FW none).round = none from rfl]
  have hc := h ⟨.ready, none, fn, a.tmps, ps, assign, body, w.heap.size⟩ rfl rfl rfl rfl rfl rfl rfl
  obtain ⟨W1, hW1⟩ : ∃ W1, rangeW w ⟨.ready, none, fn, a.tmps, ps, assign, body, w.heap.size⟩ = W1 := ⟨_, rfl⟩
  rw [hW1] at hc
  refine ⟨w.heap.size + 1, [{ target := .collected w.heap.size, args := #[] }], W1, { target := .fn (.func gf) lb, args := #[.func (.yield (w.heap.size + 1)) #[] #[]] }, W1, gf,
    #[.func (.yield (w.heap.size + 1)) #[] #[]] ++ lb, W1, ?_, ?_, ?_, ?_, fun h => by simp [FW, Fence.wide] at h, ?_⟩
  · rw [← hW1]; exact run_enterLoop_outer _ _ _ _ _
  · simp only [resolve, hg]
    simp [go_sem]
  · intro f' hf'; trivial
  · simp [invoke, go_sem, eg]
  · refine CallsIn.mono (callsFW.2 hc) ?_
    intro e W hh
    obtain ⟨v, st, pe, he, hst, hl, hj⟩ := hh
    subst he
    refine ⟨pe, W.putObj (w.heap.size + 1) (.loop ⟨.exhausted, pe, fn, a.tmps, ps, assign, body, w.heap.size⟩), ?_, ?_⟩
    · exact run_endLoop hl hst
    · cases pe with
      | none => exact hj
      | some c => exact hj

/-- the jump that a round leaves for the loop's end -/
def jumpOf : Exit → Option (Option Code)
  | .normal => some none
  | .ret => some (some .ret)
  | .exit id => some (some (.exit id))
  | _ => none
/-- what is asked at a round's end -/
def roundR (l : Nat) (r : Loop) (K : Value → World → Prop) (e : Exit) (_ : Act) (W : World) : Prop :=
  W.heap[l]? = some (.loop { r with state := .busy }) ∧ match jumpOf e with
    | some pe => K (.bool pe.isNone) (W.putObj l (.loop { r with state := if pe.isNone then .ready else .done, pending := pe }))
    | none => False
/-- the temporaries of a round -/
def roundT (r : Loop) (args : Array Value) : Array Value := (r.params.zip args).foldl (fun tmps (t, a) => tmps.setIfInBounds t a) r.tmps

theorem wpR_yield {q : Option Nat} {o : Oper} {f : Operand} {args : Array Operand} {ats : Array TypeId} {l : Nat} {r : Loop} {vs : Array Value} (ho : o.op = .call { callee := .value f, args, argTypes := ats })
    (hf : a.eval f = .func (.yield l) #[] #[]) (hargs : args.map a.eval = vs) (hl : w.heap[l]? = some (.loop r)) (hs : vs.size = r.params.size) (hst : r.state = .ready)
    (h : wpR (some l) P r.assign (Exit.then (fun a1 W1 => W1.heap[l]? = some (.loop r) ∧ wpR (some l) P r.body (roundR l r fun v W => K (a.put o.dst v) W) a1 (W1.putObj l (.loop { r with state := .busy }))) fun _ _ _ => False)
      { tmps := roundT r vs, defers := [] } w) : o.wpIn (FW q) 0 P a w K Q := by
  refine ⟨fun _ _ => trivial, ?_⟩
  rw [Oper.semAt_eq _ _ _ (by rw [ho]; intro c hc; cases hc)]
  subst hargs
  unfold execOp
  simp only [ho, resolve, Deferred.ofValue, hf, invoke, Sem.run_bind, Sem.run_pure, Result.andThen_ok, Array.empty_append, Array.append_empty, run_yield hl hs, Oper.uponIn]
  refine ⟨fun h => by simp [FW, Fence.wide] at h, ?_⟩
  refine roundIn_of_wpIn trivial (wpIn_mono h ?_)
  intro e a1 W1 hq
  cases e with
  | normal =>
    obtain ⟨hl1, hb⟩ := hq
    refine ⟨_, run_beginRound hl1 hst, wpIn_mono hb ?_⟩
    rintro e2 a2 W2 ⟨hl2, hr⟩
    cases e2 with
    | normal => exact ⟨_, _, run_endRound none hl2, hr⟩
    | ret => exact ⟨_, _, run_endRound (some .ret) hl2, hr⟩
    | exit id => exact ⟨_, _, run_endRound (some (.exit id)) hl2, hr⟩
    | goto t => exact hr.elim
    | panic c => exact hr.elim
    | outgrown => exact hr.elim
  | ret => exact hq.elim
  | exit id => exact hq.elim
  | goto t => exact hq.elim
  | panic c => exact hq.elim
  | outgrown => exact hq.elim

/-! ### a function's return, with marks -/
/-- the world after the marks are taken; none where a block does not lie there -/
def takeM : List Deferred → World → Option World
  | [], w => some w
  | d :: ds, w => match d.target with
    | .collected D => match w.heap[D]? with
      | some (.deferred (some [])) => takeM ds (w.putObj D (.deferred none))
      | _ => none
    | _ => none
/-- what is asked where a function's body ends -/
def endR (P : Program) (fn : Func) (R : Ending → World → Prop) : Exit → Act → World → Prop
  | .normal, a, w | .ret, a, w => ∃ w' v, takeM a.defers w = some w' ∧ (results fn a.tmps).run P w' = .ok v w' ∧ R (.returned v) w'
  | _, _, _ => False

theorem leavesM {n : Nat} {fn : Func} {tmps : Array Value} {R : Ending → World → Prop} {v : Value} : ∀ (ds : List Deferred) (w w' : World), takeM ds w = some w' → (results fn tmps).run P w' = .ok v w' → R (.returned v) w' → LeavesInM (FW none) n P fn tmps R ds .returning w
  | [], w, w', h, hr, hR => by
    obtain rfl : w = w' := by simpa [takeM] using h
    exact ⟨v, hr, hR⟩
  | d :: ds, w, w', h, hr, hR => by
    unfold takeM at h
    split at h
    · rename_i D hd
      split at h
      · rename_i hD
        exact ⟨by simp, .inl ⟨D, _, hd, run_takeDeferred hD, leavesM ds _ w' h hr hR⟩⟩
      · cases h
    · cases h
theorem calls_of_endR {f : FuncId} {fn : Func} {c : Code} {args : Array Value} {R : Ending → World → Prop} (hf : P.funcs[f]? = some fn) (hb : fn.body = some c)
    (h : wpR none P c (endR P fn R) { tmps := args ++ Array.replicate (fn.ntmps - args.size) undef, defers := [] } w) : Calls P f args w R := by
  refine callsFW.1 (callsIn_of_wp_marks (F := FW none) (n := 0) hf hb trivial (wpIn_mono h ?_) rfl)
  intro e a' W' hq
  cases e with
  | normal => obtain ⟨w', v, h1, h2, h3⟩ := hq; exact leavesM _ _ _ h1 h2 h3
  | ret => obtain ⟨w', v, h1, h2, h3⟩ := hq; exact leavesM _ _ _ h1 h2 h3
  | panic c => exact hq.elim
  | outgrown => exact hq.elim
  | exit id => exact hq.elim
  | goto t => exact hq.elim
end
end Go.Proofs.Ytmkigejhgpoleaa
