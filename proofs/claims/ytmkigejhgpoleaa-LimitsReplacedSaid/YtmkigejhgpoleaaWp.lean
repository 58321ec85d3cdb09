/-
  The laws of control for a plain frame and for a round's frame alike: code at a fence that asks nothing, with the round's record or without.
-/
import Derived.Test.YtmkigejhgpoleaaRows
import Derived.WalkKit
import Derived.Lib.Hide
import Derived.CallsIn
import Derived.ControlIn
import Derived.OrdersIn
import Derived.LoopIn
import Derived.TacticsIn
import Derived.RangeFuncIn
import Derived.RangeFuncLeaves
import Derived.RangeFuncCalls
import Derived.RangeFuncBound
import Derived.RangeFuncRecord
namespace Go.Proofs.Ytmkigejhgpoleaa
set_option linter.unusedSimpArgs false
set_option linter.unusedVariables false
open Go Go.RowKit

/-- a fence that asks nothing, for a frame of a round or a plain one -/
def FW (r : Option Nat) : Fence := { Fence.wide with round := r }

theorem callsFW {r : Option Nat} {n : Nat} {P : Program} {f : FuncId} {args : Array Value} {w : World} {R : Ending → World → Prop} : CallsIn (FW r) n P f args w R ↔ Calls P f args w R :=
  (show CallsIn (FW r) n P f args w R ↔ CallsIn Fence.wide n P f args w R from Iff.rfl).trans callsIn_wide
theorem rowsFW {r : Option Nat} {n : Nat} {P : Program} {row : String} {args : Array Value} {w : World} {R : Value → World → Prop} (h : Rows P row args w R) : RowsIn (FW r) n P row args w R :=
  fun c cs _ => let ⟨v, w', r, s⟩ := h c cs; ⟨v, w', r, (StepsIn.of_steps s).mono fun m _ => fenced_wide P m⟩

/-- what is to be shown of code -/
def wpR (r : Option Nat) (P : Program) (c : Code) (Q : Exit → Act → World → Prop) (a : Act) (w : World) : Prop := c.wpIn (FW r) 0 P Q a w

theorem wpR_none {P : Program} {c : Code} {Q : Exit → Act → World → Prop} {a : Act} {w : World} : wpR none P c Q a w ↔ c.wp P Q a w :=
  (show wpR none P c Q a w ↔ c.wpIn Fence.wide 0 P Q a w from Iff.rfl).trans wpIn_wide

theorem operIn_of_wp {r : Option Nat} {P : Program} {o : Oper} {a : Act} {w : World} {K : Act → World → Prop} {Q : Exit → Act → World → Prop} (hd : ∀ c, o.op ≠ .defer c) (h : o.wp P a w K Q) : o.wpIn (FW r) 0 P a w K Q := by
  refine ⟨fun _ _ => trivial, ?_⟩
  rw [Oper.semAt_eq _ _ _ hd]
  unfold Oper.wp at h
  generalize (execOp a.eval o).run P w = x at h ⊢
  cases x with
  | ok x w' =>
    cases x <;> simp only [Oper.upon] at h <;> simp only [Oper.uponIn] <;> first
      | exact h
      | exact ⟨fun h => by simp [FW, Fence.wide] at h, callsFW.2 h⟩
      | exact ⟨fun h => by simp [FW, Fence.wide] at h, rowsFW h⟩
      | exact h.elim
  | halt x w' => cases x <;> simp only [Oper.upon] at h <;> simp only [Oper.uponIn] <;> first | exact h | exact h.elim

section
variable {r : Option Nat} {P : Program} {Q : Exit → Act → World → Prop} {a : Act} {w : World}
theorem wpR_skip (h : Q .normal a w) : wpR r P .skip Q a w := wpIn_skip h
theorem wpR_label {l : Nat} (h : Q .normal a w) : wpR r P (.label l) Q a w := wpIn_label h
theorem wpR_exit {id : Nat} (h : Q (.exit id) a w) : wpR r P (.exit id) Q a w := wpIn_exit h
theorem wpR_ret (h : Q .ret a w) : wpR r P .ret Q a w := wpIn_ret h
theorem wpR_seq {x y : Code} (h : wpR r P x (Exit.then (wpR r P y Q) Q) a w) : wpR r P (.seq x y) Q a w := wpIn_seq h
theorem wpR_block {id : Nat} {c : Code} (h : wpR r P c (Exit.inBlock id Q) a w) : wpR r P (.block id c) Q a w := wpIn_block h
theorem wpR_cond_true {c : Operand} {x y : Code} (hc : a.eval c = .bool true) (h : wpR r P x Q a w) : wpR r P (.cond c x y) Q a w := wpIn_cond_true hc h
theorem wpR_cond_false {c : Operand} {x y : Code} (hc : a.eval c = .bool false) (h : wpR r P y Q a w) : wpR r P (.cond c x y) Q a w := wpIn_cond_false hc h

/-- operations, one after another -/
def wpLR (r : Option Nat) (P : Program) (all : Array Oper) (Q : Exit → Act → World → Prop) (l : List Oper) (a : Act) (w : World) : Prop := wpListIn (FW r) 0 P all Q l a w
theorem wpLR_nil {all : Array Oper} (h : Q .normal a w) : wpLR r P all Q [] a w := h
theorem wpLR_cons {all : Array Oper} {o : Oper} {rest : List Oper} (hw : Region.wanted o (yielded all a.tmps) = true) (h : o.wpIn (FW r) 0 P a w (wpLR r P all Q rest) Q) : wpLR r P all Q (o :: rest) a w := by
  unfold wpLR wpListIn
  rw [if_pos hw]
  exact h
theorem wpLR_skip {all : Array Oper} {o : Oper} {rest : List Oper} (hw : Region.wanted o (yielded all a.tmps) = false) (h : wpLR r P all Q rest (a.put o.dst undef) w) : wpLR r P all Q (o :: rest) a w := by
  unfold wpLR wpListIn
  rw [if_neg (by simp [hw])]
  exact ⟨fun _ _ => trivial, h⟩
theorem wpR_region {id : Nat} {ops : Array Oper} (h : wpLR r P ops Q ops.toList a w) : wpR r P (.region id ops false) Q a w := wpIn_region_list h

theorem wpR_loop_ghost {γ : Type} {c : Code} (I : γ → Act → World → Prop) (μ : γ → Nat) (g0 : γ) (h0 : I g0 a w)
    (round : ∀ g a w, I g a w → wpR r P c (Exit.then (fun a' w' => ∃ g', I g' a' w' ∧ μ g' < μ g) Q) a w) : wpR r P (.loop c) Q a w := by
  intro b k cs hro hb hr
  have key : ∀ n g a w, μ g = n → I g a w →
      ∃ e a' w', Q e a' w' ∧ ArrivesIn (Machine.fenced P (FW r)) P (lone (b.atR a (.code c :: .inLoop c :: k)) cs w) b k cs e a' w' := by
    intro n
    induction n using Nat.strongRecOn with
    | _ n ih =>
      intro g a w hn hI
      obtain ⟨e, a₁, w₁, hq, harr⟩ := round g a w hI b (.inLoop c :: k) cs hro hb hr
      cases e with
      | normal =>
        obtain ⟨g', hI₁, hlt⟩ := hq
        obtain ⟨e₂, a₂, w₂, hq₂, harr₂⟩ := ih (μ g') (hn ▸ hlt) g' a₁ w₁ rfl hI₁
        exact ⟨e₂, a₂, w₂, hq₂, .of_steps (StepsIn.trans harr (.one (fenced_calm hb hr rfl) stepR_inLoop)) harr₂⟩
      | exit id => exact ⟨_, a₁, w₁, hq, .pass (x := .inLoop c) rfl (fun _ _ => .inl (by simp)) harr⟩
      | goto l => exact ⟨_, a₁, w₁, hq, .pass (x := .inLoop c) rfl (fun _ _ => .inl (by simp)) harr⟩
      | ret => exact ⟨_, a₁, w₁, hq, .pass (x := .inLoop c) rfl (fun _ _ => .inl (by simp)) harr⟩
      | panic ch => exact ⟨_, a₁, w₁, hq, .pass (x := .inLoop c) rfl (fun _ _ => .inl (by simp)) harr⟩
      | outgrown => exact ⟨_, a₁, w₁, hq, .pass (x := .inLoop c) rfl (fun _ _ => .inl (by simp)) harr⟩
  obtain ⟨e, a', w', hq, harr⟩ := key _ g0 a w rfl h0
  exact ⟨e, a', w', hq, .of_steps (.one (fenced_calm hb hr rfl) stepR_loop) harr⟩

/-- a loop, round by round -/
def roundsR (r : Option Nat) (P : Program) (c : Code) (Q : Exit → Act → World → Prop) : Nat → Act → World → Prop
  | 0 => fun _ _ => False
  | m + 1 => fun a w => wpR r P c (Exit.then (roundsR r P c Q m) Q) a w
theorem wpR_mono {c : Code} {Q' : Exit → Act → World → Prop} (h : wpR r P c Q a w) (hq : ∀ e a' w', Q e a' w' → Q' e a' w') : wpR r P c Q' a w := wpIn_mono h hq
theorem wpR_loop_rounds {c : Code} (m : Nat) (h : roundsR r P c Q m a w) : wpR r P (.loop c) Q a w := by
  refine wpR_loop_ghost (γ := Nat) (fun m a w => roundsR r P c Q m a w) id m h ?_
  intro m a w hm
  cases m with
  | zero => exact hm.elim
  | succ m =>
    refine wpR_mono hm fun e a' w' hq => ?_
    cases e with
    | normal => exact ⟨m, hq, Nat.lt_succ_self m⟩
    | exit id => exact hq
    | goto l => exact hq
    | ret => exact hq
    | panic ch => exact hq
    | outgrown => exact hq
end
end Go.Proofs.Ytmkigejhgpoleaa
