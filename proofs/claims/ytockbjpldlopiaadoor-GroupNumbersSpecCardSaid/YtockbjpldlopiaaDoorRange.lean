/-
  A range over a function, walked in line: the statement's law for a closure known at the loop, and a round's law; the iterator may keep its state in cells of its own.
-/
import Derived.Test.YtockbjpldlopiaaDoorRows
import Derived.WalkKit
import Derived.Lib.Hide
import Derived.WalkSpells
import Derived.WalkLawsBesides
import Derived.RangeFuncNested
import Derived.RangeFuncBound
import Derived.RangeFuncCalls
import Derived.RangeFuncLeaves
import Derived.RangeFuncBox
import Derived.OwnWalkIn
import Derived.TacticsInMore
import Derived.LoopNIn
import Derived.LoopIn
import Derived.Lib.RabinKarpLaws
import Derived.Shelf.Abstract
namespace Go.Proofs.YtockbjpldlopiaaDoor
set_option linter.unusedSimpArgs false
set_option linter.unusedVariables false
open Go Go.RowKit

variable {F : Fence} {n : Nat} {P : Program}

/-- a loop over a function, as its record bears it -/
structure LP where
  fn : FuncId
  tmps : Array Value
  ps : Array Tmp
  assign : Code
  body : Code
  D : Nat

def LP.obj (L : LP) (st : LoopState) (pe : Option Code) : Obj :=
  .loop { state := st, pending := pe, fn := L.fn, tmps := L.tmps, params := L.ps, assign := L.assign, body := L.body, defers := L.D }

/-- the temporaries of a round -/
def LP.yt (L : LP) (args : Array Value) : Array Value := (L.ps.zip args).foldl (fun tmps (t, a) => tmps.setIfInBounds t a) L.tmps

def lmark (D : Nat) (a : Act) : Act := { a with defers := { target := .collected D, args := #[] } :: a.defers }

/-- what is asked behind the iterator -/
def lafter (F : Fence) (n : Nat) (P : Program) (Q : Exit → Act → World → Prop) (a : Act) (W : World) : Option Code → Prop
  | none => Q .normal a W
  | some c => c.wpIn F n P Q a W

/-- what is asked where the iterator returns: the record is not busy; the jump that a round has left goes on -/
def LP.ends (L : LP) (F : Fence) (n : Nat) (P : Program) (Q : Exit → Act → World → Prop) (a : Act) (l : Nat) (e : Ending) (W : World) : Prop :=
  ∃ v st jump, e = .returned v ∧ st ≠ .busy ∧ W.heap[l]? = some (L.obj st jump) ∧ lafter F n P Q a (W.putObj l (L.obj .exhausted jump)) jump

theorem wpIn_rangeFunc_line {g : Operand} {ps : Array Tmp} {assign body : Code} {Q : Exit → Act → World → Prop} {a : Act} {w : World}
    (hro : F.round = none) (h1 : 1 ≤ n) {gf : Nat} {lb : Array Value} (hg : a.eval g = .func (.func gf) #[] lb) (hFg : F.fn gf) (eg : ∀ args w, (callFunc gf args).run P w = .ok (.enter gf args) w)
    (h : ∀ L : LP, F.fn L.fn → Hid (L.tmps = a.tmps) → Hid (L.ps = ps) → Hid (L.assign = assign) → Hid (L.body = body) →
      CallsIn F (n - 1) P gf (#[.func (.yield (w.heap.size + 1)) #[] #[]] ++ lb)
      ((w.alloc (.deferred (some []))).alloc (L.obj .ready none)) (L.ends F n P Q (lmark w.heap.size a) (w.heap.size + 1))) :
    (Code.rangeFunc g ps assign body).wpIn F n P Q a w := by
  refine wpIn_rangeFunc ?_
  intro fn hfn
  rw [hro]
  have hc := h ⟨fn, a.tmps, ps, assign, body, w.heap.size⟩ hfn rfl rfl rfl rfl
  obtain ⟨W1, hW1⟩ : ∃ W1, (w.alloc (.deferred (some []))).alloc (LP.obj ⟨fn, a.tmps, ps, assign, body, w.heap.size⟩ .ready none) = W1 := ⟨_, rfl⟩
  rw [hW1] at hc
  refine ⟨w.heap.size + 1, [{ target := .collected w.heap.size, args := #[] }], W1, { target := .fn (.func gf) lb, args := #[.func (.yield (w.heap.size + 1)) #[] #[]] }, W1, gf,
    #[.func (.yield (w.heap.size + 1)) #[] #[]] ++ lb, W1, ?_, ?_, ?_, ?_, fun _ => h1, ?_⟩
  · rw [← hW1]; exact run_enterLoop_outer _ _ _ _ _
  · simp only [resolve, hg]
    simp [go_sem]
  · intro f' hf'; simp [Target.leads] at hf'; subst hf'; exact hFg
  · simp [invoke, go_sem, eg]
  · refine CallsIn.mono hc ?_
    intro e W hh
    obtain ⟨v, st, jump, he, hst, hl, hj⟩ := hh
    subst he
    refine ⟨jump, W.putObj (w.heap.size + 1) (LP.obj ⟨fn, a.tmps, ps, assign, body, w.heap.size⟩ .exhausted jump), ?_, ?_⟩
    · exact run_endLoop hl hst
    · cases jump with
      | none => exact hj
      | some c => exact hj

/-- what is asked at a round's end -/
def LP.round (L : LP) (l : Nat) (R : Ending → World → Prop) (e : Exit) (_a : Act) (W : World) : Prop :=
  W.heap[l]? = some (L.obj .busy none) ∧
    match e with
    | .normal => R (.returned (.bool true)) (W.putObj l (L.obj .ready none))
    | .ret => R (.returned (.bool false)) (W.putObj l (L.obj .done (some .ret)))
    | .exit id => R (.returned (.bool false)) (W.putObj l (L.obj .done (some (.exit id))))
    | .goto t => R (.returned (.bool false)) (W.putObj l (L.obj .done (some (.goto t))))
    | _ => False

theorem run_yield_line {L : LP} {l : Nat} {args : Array Value} {W : World} (h : W.heap[l]? = some (L.obj .ready none)) (hs : args.size = L.ps.size) :
    (Instr.yield l args).run P W = .ok (.round l L.fn (L.yt args) L.assign L.body) W :=
  run_yield h hs

theorem run_yield_lit {L : LP} {l : Nat} {args : Array Value} {W : World} {ps : Array Tmp} {tmps : Array Value} (hp : Hid (L.ps = ps)) (ht : Hid (L.tmps = tmps))
    (h : W.heap[l]? = some (L.obj .ready none)) (hs : args.size = ps.size) :
    (Instr.yield l args).run P W = .ok (.round l L.fn ((ps.zip args).foldl (fun tmps (t, a) => tmps.setIfInBounds t a) tmps) L.assign L.body) W := by
  have hp' : L.ps = ps := hp
  have ht' : L.tmps = tmps := ht
  subst hp'
  subst ht'
  exact run_yield h hs

theorem roundIn_line {L : LP} {l : Nat} {tmps : Array Value} {w : World} {R : Ending → World → Prop} (hF : F.fn L.fn)
    (h : L.assign.wpIn (F.inRound l) n P (Exit.then (fun a₁ w₁ => w₁.heap[l]? = some (L.obj .ready none) ∧
      L.body.wpIn (F.inRound l) n P (L.round l R) a₁ (w₁.putObj l (L.obj .busy none))) (fun _ _ _ => False)) { tmps := tmps, defers := [] } w) :
    RoundIn F n P l L.fn tmps L.assign L.body w R := by
  refine roundIn_of_wpIn hF (wpIn_mono h ?_)
  intro e a W hq
  cases e with
  | normal =>
    obtain ⟨hl, hb⟩ := hq
    refine ⟨_, run_beginRound hl rfl, wpIn_mono hb ?_⟩
    rintro e2 a2 W2 ⟨hl2, hr⟩
    cases e2 with
    | normal => exact ⟨_, _, run_endRound none hl2, hr⟩
    | ret => exact ⟨_, _, run_endRound (some .ret) hl2, hr⟩
    | exit id => exact ⟨_, _, run_endRound (some (.exit id)) hl2, hr⟩
    | goto t => exact ⟨_, _, run_endRound (some (.goto t)) hl2, hr⟩
    | panic c => exact hr.elim
    | outgrown => exact hr.elim
  | ret => exact hq.elim
  | exit id => exact hq.elim
  | goto t => exact hq.elim
  | panic c => exact hq.elim
  | outgrown => exact hq.elim

/-! ### small laws on blocks -/
theorem heap_put {W : World} {l k : Nat} {o o' : Obj} (h : W.heap[k]? = some o) (hne : k ≠ l) : (W.putObj l o').heap[k]? = some o :=
  (World.putObj_heap_other hne).trans h
theorem heap_put_same {W : World} {l : Nat} {o o' : Obj} (h : W.heap[l]? = some o) : (W.putObj l o').heap[l]? = some o' :=
  World.putObj_heap_same (Array.getElem?_eq_some_iff.1 h).1
theorem heap_set {W : World} {b k : Nat} {o : Obj} {v : Value} (h : W.heap[k]? = some o) (hne : k ≠ b) : (W.setCell ⟨b, 0, none⟩ v).heap[k]? = some o :=
  (Below.heap_setCell _ _ _ _ hne).trans h
theorem heap_alloc {W : World} {k : Nat} {o o' : Obj} (h : W.heap[k]? = some o) : (W.alloc o').heap[k]? = some o :=
  (Below.heap_alloc _ _ _ (Array.getElem?_eq_some_iff.1 h).1).trans h
theorem below_put {B l : Nat} {a W : World} (h : Below B a W) (hl : B ≤ l) (o : Obj) : Below B a (W.putObj l o) :=
  h.trans ⟨rfl, rfl, rfl, by simp, fun k hk => World.putObj_heap_other (by omega)⟩

theorem _root_.Go.Boxed.put {W : World} {B l : Nat} {t : TypeId} {v : Value} {o : Obj} (h : Boxed W B t v) (hne : B ≠ l) : Boxed (W.putObj l o) B t v := heap_put h hne

/-- the number in a box: for a measure -/
def boxNat (W : World) (B : Nat) : Nat := match W.cell? ⟨B, 0, none⟩ with | some v => (intOf v).toNat | none => 0
theorem boxNat_of {W : World} {B : Nat} {t : TypeId} {k : IntKind} {q : Int} (h : Boxed W B t (.int k q)) : boxNat W B = q.toNat := by
  unfold boxNat; rw [h.cell]; rfl

theorem heap?_alloc (W : World) (o : Obj) (k : Nat) : (W.alloc o).heap[k]? = if k = W.heap.size then some o else W.heap[k]? := by
  show (W.heap.push o)[k]? = _
  rw [Array.getElem?_push]

theorem heap_at {W : World} {o : Obj} {k : Nat} (h : k = W.heap.size) : (W.alloc o).heap[k]? = some o := by rw [heap?_alloc, if_pos h]
theorem heap_ne {W : World} {o o' : Obj} {k : Nat} (h : k ≠ W.heap.size) (h' : W.heap[k]? = some o') : (W.alloc o).heap[k]? = some o' := by rw [heap?_alloc, if_neg h, h']

end Go.Proofs.YtockbjpldlopiaaDoor
