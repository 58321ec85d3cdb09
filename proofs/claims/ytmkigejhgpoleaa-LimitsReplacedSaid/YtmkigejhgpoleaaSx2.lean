/-
  A symbolic executor, second part: the operations.
-/
import Derived.Test.YtmkigejhgpoleaaSx1
namespace Go.Proofs.Ytmkigejhgpoleaa
set_option linter.unusedSimpArgs false
set_option linter.unusedVariables false
open Go Go.RowKit
namespace SX

/-- the program, what is known of its functions, the shapes of their results, the slices whose contents are known -/
structure Cx where
  P : Program
  R : (Value → Nat → List Value → Prop) → FuncId → List Arg → Value → Prop
  shp : FuncId → Option Sh
  K : Value → Nat → List Value → Prop
  /-- slices whose contents are known, and that a result may share -/
  A : Value → Nat → List Value → Prop := fun _ _ _ => False
  /-- the arguments that a result may share -/
  ali : FuncId → List Nat := fun _ => []
  /-- appends that make something new: by the slot of what is appended to -/
  fr : List Nat := []
  /-- is what is appended kept with its parts -/
  stc : Bool := false
  /-- functions that are called last in a region that draws its order -/
  tl : List FuncId := []
  /-- closures that hand back a slice and write one captured cell: which one, the slice's size -/
  cw : FuncId → Option (Nat × Nat) := fun _ => none
  Wr : (Value → Nat → List Value → Prop) → FuncId → List Arg → List (List Value) → Value → Prop := fun _ _ _ _ _ => False
  /-- sides of branches that are not followed: by the value's number, how much has been decided, the side -/
  cut : List (Nat × Nat × Bool) := []
  /-- are names that nothing bears dropped behind a region that draws its order -/
  trm : Bool := false
  /-- are own arrays written and read at places that are not known -/
  arr : Bool := false
  /-- functions that write the block of the caller's that their bound argument points to: how many cells it has -/
  cp : FuncId → Option Nat := fun _ => none
  /-- functions that hand back a row of one's own: do they take their first argument, a row, for it -/
  rc : FuncId → Option Bool := fun _ => none

inductive Rw where
  | no
  | own (sz : Nat) (cs : List V)
  | ext (sz : Nat)
  | row (sz : Nat) (cs : List V)
/-- what is asked of values that are not known -/
inductive Opq where
  | bin (op : BinOp) (t : TypeId)
  | binb (op : BinOp)
  | not
  | neg
  | len (str : Bool)
  | cap
  | min
  | max
  | conv (k : IntKind)
  | bnd
  | elem (sz o : Nat)
  | elems (sz o n : Nat)
  | call (f : FuncId) (rw : List Rw)
  | callg (f : FuncId) (rw grw : List Rw)
  | callw (f : FuncId) (rw : List Rw) (caps : List (List V))
  | callp (f : FuncId) (rw : List Rw) (t : TypeId)
  | callr (f : FuncId) (rw : List Rw) (sz : Nat) (e : TypeId)
  | calln (f : FuncId) (rw : List Rw) (sz : Nat) (e : TypeId)
  | eqr (neq : Bool) (n : Nat) (l : List CK)
  | slc (str : Bool) (sz : Nat) (lo hi mx : Bool)
  | rlen (sz : Nat)
  | rbnd (sz : Nat)
  | relem (sz o : Nat)
  | relems (sz o n : Nat)
  | rset (sz o : Nat)
  | app (sz by' : Nat) (src : Rw)
  | appx (sz by' : Nat) (fr : Bool) (src : Rw)
  | kext (sz : Nat)
  | snil (neq : Bool)
  | slcx (sz : Nat) (lo hi : Bool)
  | mks (z : Value) (sz by' : Nat)
  | cpy (sz l : Nat)
  | cpyx (l : Nat)
  | apz (z : Value) (sz by' : Nat)
  | s2b
  | cpl
  | b2s
  | b2sx
  | aps (by' : Nat)
  | mlk (ok : Bool) (K : IntKind) (k : Nat) (ag : Bool) (z : Value)
  | mset (K : IntKind) (k : Nat) (ag : Bool)

/-- an operator on numbers, strings and truth values -/
def binV (op : BinOp) : Value → Value → Option Value
  | .int k i, .int k' j => match op with
    | .shl => if j < 0 then none else some (.int k (k.wrap (i * 2 ^ (min j.toNat k.bits))))
    | .shr => if j < 0 then none else some (.int k (i.fdiv (2 ^ (min j.toNat k.bits))))
    | op => if k = k' then (match op with
      | .quo => if j = 0 then none else some (.int k (k.wrap (i.tdiv j)))
      | .rem => if j = 0 then none else some (.int k (i.tmod j))
      | .and => some (.int k (k.wrap (BitVec.ofInt k.bits i &&& BitVec.ofInt k.bits j).toNat))
      | .or => some (.int k (k.wrap (BitVec.ofInt k.bits i ||| BitVec.ofInt k.bits j).toNat))
      | .xor => some (.int k (k.wrap (BitVec.ofInt k.bits i ^^^ BitVec.ofInt k.bits j).toNat))
      | op => binI op k i j) else none
  | .string p, .string q => match op with
    | .eql => some (.bool (decide (p = q)))
    | .neq => some (.bool (!decide (p = q)))
    | _ => none
  | _, _ => none
/-- '==' and '!=' on truth values -/
def boolV (op : BinOp) : Value → Value → Option Value
  | .bool p, .bool q => match op with
    | .eql => some (.bool (p == q))
    | .neq => some (.bool !(p == q))
    | _ => none
  | _, _ => none
def isBoolT (P : Program) (t : TypeId) : Bool := match P.underlying t with
  | some .bool => true
  | _ => false
theorem isBoolT_eq {P : Program} {t : TypeId} (h : isBoolT P t = true) : P.underlying t = some .bool := by
  unfold isBoolT at h
  split at h
  · assumption
  · cases h
def kLen : Bool → Value → Option Value
  | false, .slice _ n _ => some (.int .i64 n)
  | true, .string s => some (.int .i64 s.size)
  | _, _ => none
def kCap : Value → Option Value
  | .slice _ _ n => some (.int .i64 n)
  | _ => none
def minV : Value → Value → Option Value
  | .int k i, .int k' j => if k = k' then some (.int k (minI i j)) else none
  | _, _ => none
def maxV : Value → Value → Option Value
  | .int k i, .int k' j => if k = k' then some (.int k (maxI i j)) else none
  | _, _ => none
def notV : Value → Option Value
  | .bool b => some (.bool !b)
  | _ => none
def negV : Value → Option Value
  | .int k i => some (.int k (k.wrap (-i)))
  | _ => none
def cplV : Value → Option Value
  | .int k i => some (.int k (k.wrap (BitVec.ofInt k.bits (if k.signed then -1 else k.max) ^^^ BitVec.ofInt k.bits i).toNat))
  | _ => none
def convV (k : IntKind) : Value → Option Value
  | .int _ i => some (.int k (k.wrap i))
  | _ => none
/-- bounds of a slice -/
def bndV (y : Nat) : Value → Option Nat
  | .int _ i => if 0 ≤ i ∧ i ≤ (y : Int) then some i.toNat else none
  | _ => none
def boundsV (len cap : Nat) (lo hi mx : Option Value) : Option (Nat × Nat × Nat) :=
  (match mx with | some v => bndV cap v | none => some cap).bind fun m =>
  (match hi, mx with | some v, _ => bndV m v | none, none => some len | none, some _ => none).bind fun h =>
  (match lo with | some v => bndV h v | none => some 0).bind fun l => some (l, h, m)
/-- the operands that are there, one after the other -/
def optsV {α : Type} : Bool → Bool → Bool → List α → Option (Option α × Option α × Option α)
  | false, false, false, [] => some (none, none, none)
  | true, false, false, [a] => some (some a, none, none)
  | false, true, false, [b] => some (none, some b, none)
  | true, true, false, [a, b] => some (some a, some b, none)
  | false, true, true, [b, c] => some (none, some b, some c)
  | true, true, true, [a, b, c] => some (some a, some b, some c)
  | _, _, _, _ => none
def slcV (str : Bool) (sz : Nat) (lo hi mx : Bool) : List Value → Option Value
  | x :: bs => (optsV lo hi mx bs).bind fun (l, h, m) => match str, x with
    | false, .slice a len cap => (boundsV len cap l h m).map fun (l, h, m) => .slice (if m = l then a else a.map (·.add (l * sz))) (h - l) (m - l)
    | true, .string s => if m.isSome then none else (boundsV s.size s.size l h none).map fun (l, h, _) => .string (s.extract l h)
    | _, _ => none
  | [] => none
/-- the index is within the slice -/
def Bnd : Value → Value → Prop
  | .slice (some _) n _, .int _ i => 0 ≤ i ∧ i < n
  | _, _ => False
def idxOf : Value → Nat
  | .int _ i => i.toNat
  | _ => 0
def isSl : Value → Bool
  | .slice _ _ _ => true
  | _ => false
mutual
def Sh.exp (i : Nat) : Sh → List Nat → V
  | .one, path => .x i path
  | .any, path => .x i path
  | .ag n, path => .a ((List.range n).map fun j => .x i (path ++ [j]))
  | .tp l, path => .t (Sh.expL i l path 0)
  | .sl _, path => .x i path
  | .agl l, path => .a (Sh.expL i l path 0)
def Sh.expL (i : Nat) : List Sh → List Nat → Nat → List V
  | [], _, _ => []
  | s :: l, path, j => s.exp i (path ++ [j]) :: Sh.expL i l path (j + 1)
end
mutual
/-- a slice's contents bear a name -/
def Sh.expN (nm i : Nat) : Sh → List Nat → V
  | .one, path => .x i path
  | .any, path => .x i path
  | .ag n, path => .a ((List.range n).map fun j => .x i (path ++ [j]))
  | .tp l, path => .t (Sh.expNL nm i l path 0)
  | .sl _, _ => .row nm
  | .agl l, path => .a (Sh.expNL nm i l path 0)
def Sh.expNL (nm i : Nat) : List Sh → List Nat → Nat → List V
  | [], _, _ => []
  | s :: l, path, j => s.expN nm i (path ++ [j]) :: Sh.expNL nm i l path (j + 1)
end
mutual
/-- where a slice's contents stand -/
def Sh.sls : Sh → List Nat → List (List Nat × Nat)
  | .sl sz, path => [(path, sz)]
  | .tp l, path => Sh.slsL l path 0
  | .agl l, path => Sh.slsL l path 0
  | _, _ => []
def Sh.slsL : List Sh → List Nat → Nat → List (List Nat × Nat)
  | [], _, _ => []
  | s :: l, path, j => s.sls (path ++ [j]) ++ Sh.slsL l path (j + 1)
end
mutual
/-- the value with a slice's header in place of its contents -/
def Sh.fill (h : Value) : Sh → Value → Value
  | .sl _, _ => h
  | .tp l, .tuple vs => .tuple (Sh.fillL h l vs.toList).toArray
  | .agl l, .agg vs => .agg (Sh.fillL h l vs.toList).toArray
  | _, v => v
def Sh.fillL (h : Value) : List Sh → List Value → List Value
  | s :: l, v :: vs => s.fill h v :: Sh.fillL h l vs
  | _, vs => vs
end
def argsOk (C : Cx) (ρ : List Value) (α : Nat → AV) : List Rw → List V → List Arg → Prop
  | [], [], [] => True
  | .no :: r, v :: vs, x :: xs => x = ⟨v.den ρ α, 0, []⟩ ∧ isSl (v.den ρ α) = false ∧ argsOk C ρ α r vs xs
  | .own sz cs :: r, v :: vs, x :: xs => x = ⟨v.den ρ α, sz, denL ρ α cs⟩ ∧ argsOk C ρ α r vs xs
  | .ext sz :: r, v :: vs, x :: xs => x.v = v.den ρ α ∧ x.sz = sz ∧ C.K (v.den ρ α) sz x.cells ∧ argsOk C ρ α r vs xs
  | .row sz cs :: r, v :: vs, x :: xs => x = ⟨v.den ρ α, sz, (denL ρ α cs).flatMap cellsV⟩ ∧ argsOk C ρ α r vs xs
  | _, _, _ => False
/-- the index is within a row -/
def Rbnd (len sz : Nat) : Value → Prop
  | .int _ i => 0 ≤ i ∧ i < ((len / sz : Nat) : Int)
  | _ => False
/-- a slice that may be appended -/
def srcOk (x : Arg) : Prop := ∀ u ∈ x.cells, u.oneCell' = true
/-- what a result may share is known to be so -/
def aliRel (C : Cx) (f : FuncId) (rw : List Rw) (as' : List Arg) : Prop := ∀ j ∈ C.ali f, ∀ x sz, as'[j]? = some x → rw[j]? = some (.ext sz) → C.A x.v x.sz x.cells
/-- a function that writes the block that its first argument points to, and nothing else -/
def PCall (C : Cx) (f : FuncId) (as' : List Arg) (cells : List Value) (t : TypeId) (v : Value) : Prop := ∀ (W : World) (b : Nat), (∀ x ∈ as', ∀ W', Same [b] W W' → x.rd W') → (∀ s sz cells, C.K s sz cells → ∀ W', Same [b] W W' → Arg.rd W' ⟨s, sz, cells⟩) → W.heap[b]? = some (.cells cells.toArray t (0, 0)) →
  Calls C.P f (Value.pointer (some ⟨b, 0, none⟩) :: as'.map Arg.v).toArray W fun e W' => e = .returned (.tuple #[]) ∧ W'.os = W.os ∧ W'.tape = W.tape ∧ W'.output = W.output ∧ Same [b] W W' ∧ W'.heap[b]? = some (.cells (cellsV v).toArray t (0, 0))
def Rw.isOwn : Rw → Bool
  | .own _ _ => true
  | _ => false
/-- it lies in a plain block -/
def PlainA (W : World) (x : Arg) : Prop := ∀ ad n c, x.v = .slice (some ad) n c → ∃ cs t, W.heap[ad.block]? = some (.cells cs t (0, 0))
/-- a function that takes a row and hands back a row, the same or a new one -/
def RCall (C : Cx) (f : FuncId) (rw : List Rw) (as' : List Arg) (old : List Value) (sz : Nat) (t : TypeId) (v : Value) : Prop := ∀ (W : World) (h : Value) (b : Nat) (tl : List Value), RowAt sz h b t old tl W → (∀ x ∈ as', ∀ W', Same (ownB h) W W' → x.rd W') → (∀ s sz cells, C.K s sz cells → ∀ W', Same (ownB h) W W' → Arg.rd W' ⟨s, sz, cells⟩) → (∀ p ∈ rw.zip as', p.1.isOwn = true → PlainA W p.2) →
  Calls C.P f (h :: as'.map Arg.v).toArray W fun e W' => ∃ h' b' tl', e = .returned h' ∧ W'.os = W.os ∧ W'.tape = W.tape ∧ W'.output = W.output ∧ Same (ownB h) W W' ∧ RowAt sz h' b' t (cellsV v) tl' W' ∧ (b' ∈ ownB h ∨ W.heap.size ≤ b')
/-- a function that hands back a new row -/
def NCall (C : Cx) (f : FuncId) (rw : List Rw) (as' : List Arg) (sz : Nat) (t : TypeId) (v : Value) : Prop := ∀ (W : World), (∀ x ∈ as', ∀ W', Same [] W W' → x.rd W') → (∀ s sz cells, C.K s sz cells → ∀ W', Same [] W W' → Arg.rd W' ⟨s, sz, cells⟩) → (∀ p ∈ rw.zip as', p.1.isOwn = true → PlainA W p.2) →
  Calls C.P f (as'.map Arg.v).toArray W fun e W' => ∃ h' b' tl', e = .returned h' ∧ Below W.heap.size W W' ∧ RowAt sz h' b' t (cellsV v) tl' W' ∧ W.heap.size ≤ b'
/-- what is asked holds of the value -/
def Opq.rel (C : Cx) (ρ : List Value) (α : Nat → AV) : Opq → List V → Value → Prop
  | .bin op _, [x, y], v => binV op (x.den ρ α) (y.den ρ α) = some v
  | .binb op, [x, y], v => boolV op (x.den ρ α) (y.den ρ α) = some v
  | .not, [x], v => notV (x.den ρ α) = some v
  | .neg, [x], v => negV (x.den ρ α) = some v
  | .cpl, [x], v => cplV (x.den ρ α) = some v
  | .len b, [x], v => kLen b (x.den ρ α) = some v
  | .cap, [x], v => kCap (x.den ρ α) = some v
  | .min, [x, y], v => minV (x.den ρ α) (y.den ρ α) = some v
  | .max, [x, y], v => maxV (x.den ρ α) (y.den ρ α) = some v
  | .conv k, [x], v => convV k (x.den ρ α) = some v
  | .bnd, [s, i], v => Bnd (s.den ρ α) (i.den ρ α) ∧ v = .bool true
  | .elem sz o, [s, i], v => Bnd (s.den ρ α) (i.den ρ α) ∧ ∃ cells, C.K (s.den ρ α) sz cells ∧ cells[idxOf (i.den ρ α) * sz + o]? = some v
  | .elems sz o n, [s, i], v => Bnd (s.den ρ α) (i.den ρ α) ∧ ∃ cells, C.K (s.den ρ α) sz cells ∧ idxOf (i.den ρ α) * sz + o + n ≤ cells.length ∧ v = .agg ((cells.drop (idxOf (i.den ρ α) * sz + o)).take n).toArray
  | .rlen sz, [c], v => v = .int .i64 ((cellsV (c.den ρ α)).length / sz : Nat)
  | .rbnd sz, [c, i], v => Rbnd (cellsV (c.den ρ α)).length sz (i.den ρ α) ∧ v = .bool true
  | .relem sz o, [c, i], v => Rbnd (cellsV (c.den ρ α)).length sz (i.den ρ α) ∧ (cellsV (c.den ρ α))[idxOf (i.den ρ α) * sz + o]? = some v
  | .relems sz o n, [c, i], v => Rbnd (cellsV (c.den ρ α)).length sz (i.den ρ α) ∧ idxOf (i.den ρ α) * sz + o + n ≤ (cellsV (c.den ρ α)).length ∧ v = .agg ((cellsV (c.den ρ α)).drop (idxOf (i.den ρ α) * sz + o) |>.take n).toArray
  | .rset sz o, c :: i :: vs, v => Rbnd (cellsV (c.den ρ α)).length sz (i.den ρ α) ∧ o + vs.length ≤ sz ∧ v = .agg ((cellsV (c.den ρ α)).take (idxOf (i.den ρ α) * sz + o) ++ denL ρ α vs ++ (cellsV (c.den ρ α)).drop (idxOf (i.den ρ α) * sz + o + vs.length)).toArray
  | .app sz by' src, [c, y], v => ∃ x, argsOk C ρ α [src] [y] [x] ∧ x.sz = sz ∧ srcOk x ∧ ((cellsV (c.den ρ α)).length + x.cells.length) / sz * by' ≤ 140737488355328 ∧ ((cellsV (c.den ρ α)).length + x.cells.length) / sz ≤ 140737488355328 ∧ v = .agg x.cells.toArray
  | .slc str sz lo hi mx, vs, v => slcV str sz lo hi mx (denL ρ α vs) = some v
  | .call f rw, vs, v => ∃ as', argsOk C ρ α rw vs as' ∧ C.R C.K f as' v ∧ aliRel C f rw as'
  | .callg f rw grw, vs, v => ∃ as' gs, argsOk C ρ α rw (vs.take rw.length) as' ∧ argsOk C ρ α grw (vs.drop rw.length) gs ∧ C.R (fun s sz cells => C.K s sz cells ∨ (⟨s, sz, cells⟩ : Arg) ∈ gs) f as' v ∧ aliRel C f rw as'
  | .callp f rw t, vs, v => ∃ as', argsOk C ρ α rw (vs.take rw.length) as' ∧ PCall C f as' (denL ρ α (vs.drop rw.length)) t v
  | .callr f rw sz e, c :: vs, v => ∃ as', argsOk C ρ α rw vs as' ∧ RCall C f rw as' (cellsV (c.den ρ α)) sz e v
  | .calln f rw sz e, vs, v => ∃ as', argsOk C ρ α rw vs as' ∧ NCall C f rw as' sz e v
  | .callw f rw caps, vs, v => ∃ as', argsOk C ρ α rw (vs.take rw.length) as' ∧ C.Wr C.K f as' (caps.map (denL ρ α)) v
  | .appx sz by' fr src, [x, y], v => ∃ cells xa A n, x.den ρ α = .slice A n n ∧ C.K (x.den ρ α) sz cells ∧ (fr = false → C.A (x.den ρ α) sz cells) ∧ (∀ u ∈ cells, u.oneCell' = true) ∧ argsOk C ρ α [src] [y] [xa] ∧ xa.sz = sz ∧ srcOk xa ∧ (fr = true → xa.cells ≠ []) ∧ (cells.length + xa.cells.length) / sz * by' ≤ 140737488355328 ∧ (cells.length + xa.cells.length) / sz ≤ 140737488355328 ∧ v = .agg (cells ++ xa.cells).toArray
  | .snil neq, [x], v => ∃ A n c, x.den ρ α = .slice A n c ∧ v = .bool (neq ^^ A.isNone)
  | .kext sz, [x], v => ∃ cells, (∃ A n c, x.den ρ α = .slice A n c ∧ n ≤ c) ∧ C.K (x.den ρ α) sz cells ∧ C.A (x.den ρ α) sz cells ∧ v = .agg cells.toArray
  | .slcx sz lo hi, c :: bs, v => ∃ l h m lo' hi', optsV lo hi false (denL ρ α bs) = some (lo', hi', none) ∧ boundsV ((cellsV (c.den ρ α)).length / sz) ((cellsV (c.den ρ α)).length / sz) lo' hi' none = some (l, h, m) ∧ v = .agg (((cellsV (c.den ρ α)).drop (l * sz)).take ((h - l) * sz)).toArray
  | .mks z sz by', [x, y], v => ∃ kl kc L M, x.den ρ α = .int kl L ∧ y.den ρ α = .int kc M ∧ 0 ≤ L ∧ L ≤ M ∧ M ≤ 140737488355328 ∧ (by' : Int) * M ≤ 281474976710656 ∧ v = .agg (madeCells z.cells (L.toNat * sz))
  | .cpy sz l, [c, y], v => ∃ cells A k cap, C.K (y.den ρ α) sz cells ∧ y.den ρ α = .slice A k cap ∧ (∀ u ∈ cells, u.oneCell' = true) ∧ v = .tuple #[.int .i64 ((Nat.min k l : Nat) : Int), .agg (cells.take (l * sz) ++ (cellsV (c.den ρ α)).drop (Nat.min k l * sz)).toArray]
  | .apz z sz by', [y], v => ∃ k L, y.den ρ α = .int k L ∧ 0 < L ∧ L ≤ 70368744177664 ∧ L * (by' : Int) ≤ 140737488355328 ∧ v = .agg (madeCells z.cells (L.toNat * sz))
  | .cpyx l, [c, y], v => (∀ u ∈ cellsV (y.den ρ α), u.oneCell' = true) ∧ v = .tuple #[.int .i64 ((Nat.min (cellsV (y.den ρ α)).length l : Nat) : Int), .agg ((cellsV (y.den ρ α)).take l ++ (cellsV (c.den ρ α)).drop (Nat.min (cellsV (y.den ρ α)).length l)).toArray]
  | .mlk ok K k ag z, [c, x], v => ∃ (l : List (Int × List Value)) (i : Int), cellsV (c.den ρ α) = l.flatMap (mCells K) ∧ (∀ e ∈ l, e.2.length = k) ∧ x.den ρ α = .int K i ∧ v = (match getM l i with
    | some cs => if ok then .tuple #[elV ag cs, .bool true] else elV ag cs
    | none => if ok then .tuple #[z, .bool false] else z)
  | .mset K k ag, c :: x :: vs, v => ∃ (l : List (Int × List Value)) (i : Int), cellsV (c.den ρ α) = l.flatMap (mCells K) ∧ (∀ e ∈ l, e.2.length = k) ∧ x.den ρ α = .int K i ∧ v = .agg ((putM l i (denL ρ α vs)).flatMap (mCells K)).toArray
  | .b2s, [c], v => ∃ l : List UInt8, cellsV (c.den ρ α) = l.map (fun b => Value.int .u8 (b.toNat : Int)) ∧ v = .string ⟨l.toArray⟩
  | .b2sx, [x], v => ∃ (l : List UInt8) (A : Option Addr) (n c : Nat), C.K (x.den ρ α) 1 (l.map fun b => Value.int .u8 (b.toNat : Int)) ∧ x.den ρ α = .slice A n c ∧ v = .string ⟨l.toArray⟩
  | .aps by', [c, y], v => ∃ b : ByteArray, y.den ρ α = .string b ∧ ((cellsV (c.den ρ α)).length + b.size) * by' ≤ 140737488355328 ∧ (cellsV (c.den ρ α)).length + b.size ≤ 140737488355328 ∧ v = .agg (b.data.toList.map fun x => Value.int .u8 (x.toNat : Int)).toArray
  | .s2b, [x], v => ∃ b : ByteArray, x.den ρ α = .string b ∧ v = .agg (b.data.toList.map fun x => Value.int .u8 (x.toNat : Int)).toArray
  | .eqr neq n l, vs, v => ∃ b : Bool, (b = true ↔ denL ρ α (vs.take n) = denL ρ α (vs.drop n)) ∧ fits l (denL ρ α (vs.take n)) = true ∧ fits l (denL ρ α (vs.drop n)) = true ∧ v = .bool (neq ^^ b)
  | _, _, _ => False

inductive Pl where
  | ef (v : V) (new : Option Blk) (wr : Option (Nat × Blk))
  | df (q : Opq) (args : List V) (sh : Sh) (mk : Option V) (new : Option Blk) (wr : Option (Nat × Blk))
  | br (i : Nat) (path : List Nat)
  | sp (i : Nat) (path : List Nat) (n : Nat)
  | no

/-- the block names that values name -/
def names1 : V → List Nat
  | .p n _ => [n]
  | .sl n _ _ _ => [n]
  | .row n => [n]
  | .ep (.row n) _ _ _ => [n]
  | .ep (.sl n _ _ _) _ _ _ => [n]
  | .mapV n => [n]
  | _ => []
def namesV (vs : List V) : List Nat := vs.flatMap names1
def blks (hp : List (Option Blk)) (vs : List V) : List (Nat × Option Blk) := (namesV vs).map fun n => (n, (hp[n]?).join)
def blkAny (bs : List (Nat × Option Blk)) (n : Nat) : Option Blk := (bs.find? fun e => e.1 == n).bind (·.2)
def cellsB (b : Blk) : Option Blk := match b.k with
  | .cells => some b
  | _ => none
/-- a block whose cells are known -/
def blkOf (bs : List (Nat × Option Blk)) (n : Nat) : Option Blk := (blkAny bs n).bind cellsB
/-- a block whose cells are known, be it written no more -/
def rdcB (b : Blk) : Option Blk := match b.k with
  | .cells => some b
  | .froz => some b
  | _ => none
def rdcOf (bs : List (Nat × Option Blk)) (n : Nat) : Option Blk := (blkAny bs n).bind rdcB
def frzOf (bs : List (Nat × Option Blk)) (n : Nat) : Bool := match blkAny bs n with
  | some b => decide (b.k = .froz)
  | none => false
/-- a row: its parts, the elements' type and size -/
def rowB (b : Blk) : Option (List V × TypeId × Nat) := match b.k with
  | .row sz => some (b.c, b.t, sz)
  | _ => none
/-- a row, or a slice that is only read -/
def rdB (b : Blk) : Option (List V × TypeId × Nat) := match b.k with
  | .row sz => some (b.c, b.t, sz)
  | .ext sz => some (b.c, b.t, sz)
  | _ => none
def rdOfN (bs : List (Nat × Option Blk)) (n : Nat) : Option (List V × TypeId × Nat) := (blkAny bs n).bind rdB
def extB (b : Blk) : Option (List V × Nat) := match b.k with
  | .ext sz => some (b.c, sz)
  | _ => none
def extOfN (bs : List (Nat × Option Blk)) (n : Nat) : Option (List V × Nat) := (blkAny bs n).bind extB
def rowOfN (bs : List (Nat × Option Blk)) (n : Nat) : Option (List V × TypeId × Nat) := (blkAny bs n).bind rowB
theorem blkAny_eq {hp : List (Option Blk)} {vs : List V} {n : Nat} {b : Blk} (h : blkAny (blks hp vs) n = some b) : hp[n]? = some (some b) := by
  unfold blkAny blks at h
  generalize namesV vs = l at h
  induction l with
  | nil => simp at h
  | cons m l ih =>
    simp only [List.map_cons, List.find?_cons] at h
    split at h
    · rename_i hm
      have hm' : m = n := by simpa using hm
      subst hm'
      cases hq : hp[m]? with
      | none => simp [hq] at h
      | some o => simp [hq] at h; rw [h]
    · exact ih h
theorem blkOf_eq {hp : List (Option Blk)} {vs : List V} {n : Nat} {b : Blk} (h : blkOf (blks hp vs) n = some b) : hp[n]? = some (some b) ∧ b.k = .cells := by
  obtain ⟨b', h1, h2⟩ := Option.bind_eq_some_iff.1 h
  unfold cellsB at h2
  split at h2
  · rename_i hk
    obtain rfl : b' = b := by simpa using h2
    exact ⟨blkAny_eq h1, hk⟩
  · cases h2
theorem rdcOf_eq {hp : List (Option Blk)} {vs : List V} {n : Nat} {b : Blk} (h : rdcOf (blks hp vs) n = some b) : hp[n]? = some (some b) ∧ (b.k = .cells ∨ b.k = .froz) := by
  obtain ⟨b', h1, h2⟩ := Option.bind_eq_some_iff.1 h
  unfold rdcB at h2
  split at h2
  · rename_i hk
    obtain rfl : b' = b := by simpa using h2
    exact ⟨blkAny_eq h1, .inl hk⟩
  · rename_i hk
    obtain rfl : b' = b := by simpa using h2
    exact ⟨blkAny_eq h1, .inr hk⟩
  · cases h2
theorem frzOf_eq {hp : List (Option Blk)} {vs : List V} {n : Nat} (h : frzOf (blks hp vs) n = true) : ∃ b, hp[n]? = some (some b) ∧ b.k = .froz := by
  unfold frzOf at h
  split at h
  · rename_i b hb
    exact ⟨b, blkAny_eq hb, by simpa using h⟩
  · cases h
theorem rowOfN_eq {hp : List (Option Blk)} {vs : List V} {n sz : Nat} {c : List V} {e : TypeId} (h : rowOfN (blks hp vs) n = some (c, e, sz)) : hp[n]? = some (some ⟨c, e, .row sz⟩) := by
  obtain ⟨b', h1, h2⟩ := Option.bind_eq_some_iff.1 h
  unfold rowB at h2
  split at h2
  · rename_i hk
    obtain ⟨b1, b2, b3⟩ := b'
    simp only [Option.some.injEq, Prod.mk.injEq] at h2 hk
    obtain ⟨rfl, rfl, rfl⟩ := h2
    subst hk
    exact blkAny_eq h1
  · cases h2
theorem rdOfN_eq {hp : List (Option Blk)} {vs : List V} {n sz : Nat} {c : List V} {e : TypeId} (h : rdOfN (blks hp vs) n = some (c, e, sz)) : ∃ k, hp[n]? = some (some ⟨c, e, k⟩) ∧ (k = .row sz ∨ k = .ext sz) := by
  obtain ⟨b', h1, h2⟩ := Option.bind_eq_some_iff.1 h
  unfold rdB at h2
  split at h2
  · rename_i hk
    obtain ⟨b1, b2, b3⟩ := b'
    simp only [Option.some.injEq, Prod.mk.injEq] at h2 hk
    obtain ⟨rfl, rfl, rfl⟩ := h2
    exact ⟨b3, blkAny_eq h1, .inl hk⟩
  · rename_i hk
    obtain ⟨b1, b2, b3⟩ := b'
    simp only [Option.some.injEq, Prod.mk.injEq] at h2 hk
    obtain ⟨rfl, rfl, rfl⟩ := h2
    exact ⟨b3, blkAny_eq h1, .inr hk⟩
  · cases h2
theorem extOfN_eq {hp : List (Option Blk)} {vs : List V} {n sz : Nat} {c : List V} (h : extOfN (blks hp vs) n = some (c, sz)) : ∃ t, hp[n]? = some (some ⟨c, t, .ext sz⟩) := by
  obtain ⟨b', h1, h2⟩ := Option.bind_eq_some_iff.1 h
  unfold extB at h2
  split at h2
  · rename_i hk
    obtain ⟨b1, b2, b3⟩ := b'
    simp only [Option.some.injEq, Prod.mk.injEq] at h2 hk
    obtain ⟨rfl, rfl⟩ := h2
    subst hk
    exact ⟨b2, blkAny_eq h1⟩
  · cases h2
def slOf (P : Program) (t : TypeId) : Option TypeId := match P.underlying t with
  | some (.slice e) => some e
  | _ => none
theorem slOf_eq {P : Program} {t e : TypeId} (h : slOf P t = some e) : P.underlying t = some (.slice e) := by
  unfold slOf at h
  split at h
  · rename_i hu
    simp only [Option.some.injEq] at h
    rw [hu, h]
  · cases h
/-- is it a string (true) or a slice (false) -/
def lenT (P : Program) (t : TypeId) : Option Bool := match P.underlying t with
  | some .string => some true
  | some (.slice _) => some false
  | _ => none
/-- is it one cell -/
def V.one (sh : List Sh) : V → Bool
  | .k v => v.oneCell'
  | .x i path => match sh[i]? with
    | some s => s.leaf path
    | none => false
  | .a _ => false
  | .t _ => false
  | .row _ => false
  | .cat _ => false
  | _ => true
def V.cells : V → List V
  | .a cs => cs
  | v => [v]
def V.isA : V → Bool
  | .a _ => true
  | _ => false
def vones (sh : List Sh) (cs : List V) : Bool := cs.all (V.one sh)
def V.oneB (bs : List (Nat × Option Blk)) (sh : List Sh) (v : V) : Bool := v.one sh || (match v with
  | .row m => (rdOfN bs m).isSome
  | _ => false)
def vonesB (bs : List (Nat × Option Blk)) (sh : List Sh) (cs : List V) : Bool := cs.all (V.oneB bs sh)
def enters (P : Program) (f : FuncId) : Bool := match P.funcs[f]? with
  | some fn => !(fn.name == "runtime.NumGoroutine") && fn.body.isSome
  | none => false
def rwOf (P : Program) (bs : List (Nat × Option Blk)) : List TypeId → List V → Option (List Rw)
  | [], [] => some []
  | t :: ts, v :: vs => (match v, slOf P t with
    | .sl n o l cc, some e => match szOf P e, rdcOf bs n with
      | some sz, some b => if o + l * sz ≤ b.c.length ∧ l ≤ cc then some (Rw.own sz ((b.c.drop o).take (l * sz))) else none
      | _, _ => none
    | .k (.slice none 0 _), some e => match szOf P e with
      | some sz => some (Rw.own sz [])
      | none => none
    | .x _ _, some e => match szOf P e with
      | some sz => some (Rw.ext sz)
      | none => none
    | .row n, some _ => (rdOfN bs n).map fun (r : List V × TypeId × Nat) => Rw.row r.2.2 r.1
    | .row _, none => none
    | .sl _ _ _ _, none => none
    | _, some _ => none
    | _, none => some Rw.no).bind fun r => (rwOf P bs ts vs).map (r :: ·)
  | _, _ => none
/-- values that are known -/
def kList : List V → Option (List Value)
  | [] => some []
  | .k v :: l => (kList l).map (v :: ·)
  | _ => none
def sc1 (q : Opq) (f : Value → Option Value) : V → Pl
  | .k c => match f c with
    | some v => if v.oneCell' then .ef (.k v) none none else .no
    | none => .no
  | x => .df q [x] .one none none none
def sc2 (q : Opq) (f : Value → Value → Option Value) : V → V → Pl
  | .k c, .k d => match f c d with
    | some v => if v.oneCell' then .ef (.k v) none none else .no
    | none => .no
  | x, y => .df q [x, y] .one none none none
/-- the parts of a struct or an array laid over its zero -/
def spliceV (c : List V) (off : Nat) (cs : List V) : List V := c.take off ++ cs ++ c.drop (off + cs.length)
def fillV (place : Nat → Option (Nat × Nat)) : List V → List (Nat × V) → Option (List V)
  | c, [] => some c
  | c, (i, v) :: r => match place i with
    | some (off, sz) => if v.cells.length = sz ∧ off + sz ≤ c.length then fillV place (spliceV c off v.cells) r else none
    | none => none
def placeOf (P : Program) (t : TypeId) : Option (Nat → Option (Nat × Nat)) := match P.underlying t with
  | some (.struct _) => (placesOf P t).map fun ps => fun i => ps[i]?
  | some (.array _ e) => (szOf P e).map fun sz => fun i => some (i * sz, sz)
  | _ => none

/-- the address of a part of an element -/
def planEp (bs : List (Nat × Option Blk)) (s i : V) (sz o : Nat) : Pl := match s with
  | .row n => match rdOfN bs n with
    | some (c, _, sz') => if sz' = sz then .df (.rbnd sz) [.cat c, i] .one (some (.ep s i sz o)) none none else .no
    | none => .no
  | s => .df .bnd [s, i] .one (some (.ep s i sz o)) none none
/-- a row all parts of which are known -/
def flatA : List V → Option (List V)
  | [] => some []
  | .a cs :: l => (flatA l).map (cs ++ ·)
  | _ => none
/-- k cells of the element i, behind the cell o -/
def stru (c : List V) (sz o : Nat) (i : V) (k : Nat) : Option (List V × Nat) := match i with
  | .k (.int _ j) => (flatA c).bind fun ds => if 0 ≤ j ∧ o + k ≤ sz ∧ 0 < k ∧ (j.toNat + 1) * sz ≤ ds.length then some (ds, j.toNat * sz + o) else none
  | _ => none
def partV (b : Bool) (n : Nat) (ds : List V) (p : Nat) : Pl := if b then .ef (.a ((ds.drop p).take n)) none none else match ds[p]? with
  | some v => .ef v none none
  | none => .no
/-- what an append keeps -/
def srcPc (b : Bool) (m : Nat) : Rw → V
  | .own _ cs => if b then .a cs else .x m []
  | _ => .x m []
/-- a part of an element -/
def planLd (bs : List (Nat × Option Blk)) (b : Bool) (n : Nat) (s i : V) (sz o : Nat) : Pl := match s with
  | .row m => match rdOfN bs m with
    | some (c, _, sz') => if sz' = sz then match stru c sz o i n with
      | some (ds, p) => partV b n ds p
      | none => (if b then .df (.relems sz o n) [.cat c, i] (.ag n) none none none else .df (.relem sz o) [.cat c, i] .one none none none) else .no
    | none => .no
  | s => if b then .df (.elems sz o n) [s, i] (.ag n) none none none else .df (.elem sz o) [s, i] .one none none none
/-- what is appended to: the parts that it holds, and the row that is used up -/
def apOld (P : Program) (bs : List (Nat × Option Blk)) (e : TypeId) (sz : Nat) : V → Option (List V × Option Nat)
  | .k (.slice none 0 0) => some ([], none)
  | .row n => match rowOfN bs n with
    | some (c, e', sz') => if e' = e ∧ sz' = sz then some (c, some n) else none
    | none => none
  | _ => none
/-- an append to a slice that is not ours, and that has no room -/
def planAx (C : Cx) (bs : List (Nat × Option Blk)) (nm m : Nat) (fr : Bool) (t : TypeId) (x y : V) : Pl := match slOf C.P t with
  | some e => match szOf C.P e, bytesOf C.P e, zeroOf C.P e with
    | some sz, some by', some z => match rwOf C.P bs [t] [y] with
      | some [src] => if 0 < sz ∧ z.cells.size = sz ∧ by' ≤ 1000000 then .df (.appx sz by' fr src) [x, y] .any (some (.row nm)) (some ⟨[.x m []], e, if fr then .row sz else .ext sz⟩) none else .no
      | _ => .no
    | _, _, _ => .no
  | none => .no
def planAp (C : Cx) (bs : List (Nat × Option Blk)) (nm m : Nat) (t : TypeId) (x y : V) : Pl := match slOf C.P t with
  | some e => match szOf C.P e, bytesOf C.P e, zeroOf C.P e with
    | some sz, some by', some z => match apOld C.P bs e sz x, rwOf C.P bs [t] [y] with
      | some (c, old), some [src] => if 0 < sz ∧ z.cells.size = sz ∧ by' ≤ 1000000 then .df (.app sz by' src) [.cat c, y] .any (some (.row nm)) (some ⟨c ++ [srcPc C.stc m src], e, .row sz⟩) (old.map fun n => (n, tomb)) else .no
      | _, _ => .no
    | _, _, _ => .no
  | none => .no
def planSl (C : Cx) (t : TypeId) (lo hi mx : Bool) (x : V) (bs : List V) : Pl := match x with
  | .p n o => match arrOf C.P t with
    | some (len, e) => match szOf C.P e, (kList bs).bind (optsV lo hi mx) with
      | some sz, some (l, h, m) => match boundsV len len l h m with
        | some (l, h, m) => .ef (.sl n (if m = l then o else o + l * sz) (h - l) (m - l)) none none
        | none => .no
      | _, _ => .no
    | none => .no
  | .sl n o len cap => match slOf C.P t with
    | some e => match szOf C.P e, (kList bs).bind (optsV lo hi mx) with
      | some sz, some (l, h, m) => match boundsV len cap l h m with
        | some (l, h, m) => .ef (.sl n (if m = l then o else o + l * sz) (h - l) (m - l)) none none
        | none => .no
      | _, _ => .no
    | none => .no
  | x => match lenT C.P t with
    | some true => .df (.slc true 1 lo hi mx) (x :: bs) .one none none none
    | some false => match (slOf C.P t).bind (szOf C.P) with
      | some sz => .df (.slc false sz lo hi mx) (x :: bs) .one none none none
      | none => .no
    | none => .no

/-- a slice of a slice that is only read -/
def planSx (C : Cx) (bs : List (Nat × Option Blk)) (nm m : Nat) (t : TypeId) (lo hi mx : Bool) (n : Nat) (args : List V) : Pl := match extOfN bs n with
  | some (c, sz) => if mx = false ∧ (slOf C.P t).bind (szOf C.P) = some sz then .df (.slcx sz lo hi) (.cat c :: args) .any (some (.row nm)) (some ⟨[.x m []], 0, .ext sz⟩) none else .no
  | none => .no
/-- what a call's result may share is not ours to write -/
def aliOk (bs : List (Nat × Option Blk)) (l : List Nat) (args : List V) : Bool := l.all fun j => match args[j]? with
  | some (.x _ _) => true
  | some (.row n) => (extOfN bs n).isSome
  | some (.k (.slice none 0 _)) => true
  | some (.sl n _ _ _) => frzOf bs n
  | _ => false
/-- slices within structs and within arrays of structs -/
def V.isRef : V → Bool
  | .sl _ _ _ _ => true
  | .row _ => true
  | _ => false
def nestB (bs : List (Nat × Option Blk)) : List V → List V
  | [] => []
  | v :: l => (match v with
    | .a cs => cs.filter V.isRef
    | .sl n _ _ _ => match blkOf bs n with
      | some b => b.c.filter V.isRef
      | none => []
    | _ => []) ++ nestB bs l
def ghRw (P : Program) (bs : List (Nat × Option Blk)) : List V → Option (List Rw)
  | [] => some []
  | v :: l => (match v with
    | .sl n o len cc => match rdcOf bs n with
      | some b => match szOf P b.t with
        | some sz => if o + len * sz ≤ b.c.length ∧ len ≤ cc then some (Rw.own sz ((b.c.drop o).take (len * sz))) else none
        | none => none
      | none => none
    | .row n => (rdOfN bs n).map fun (r : List V × TypeId × Nat) => Rw.row r.2.2 r.1
    | _ => none).bind fun r => (ghRw P bs l).map (r :: ·)
/-- a call's question: with the slices within its arguments, if there are any -/
def clQ (C : Cx) (bs : List (Nat × Option Blk)) (g : FuncId) (rw : List Rw) (args : List V) : Opq × List V := match ghRw C.P bs (nestB bs args) with
  | some (r :: grw) => (.callg g rw (r :: grw), args ++ nestB bs args)
  | _ => (.call g rw, args)
/-- a call that is answered by what is known of the function -/
def planCl (C : Cx) (bs : List (Nat × Option Blk)) (nm m : Nat) (g : FuncId) (ts : List TypeId) (args : List V) : Pl := match C.shp g, rwOf C.P bs ts args, enters C.P g with
  | some sh, some rw, true => match sh.sls [] with
    | [] => .df (clQ C bs g rw args).1 (clQ C bs g rw args).2 sh none none none
    | [(p, sz)] => if 0 < sz ∧ aliOk bs (C.ali g) args = true then .df (clQ C bs g rw args).1 (clQ C bs g rw args).2 sh (some (sh.expN nm m [])) (some ⟨[.x m p], 0, .ext sz⟩) none else .no
    | _ => .no
  | _, _, _ => .no
def capsOf (bs : List (Nat × Option Blk)) : List V → Option (List (Nat × Blk))
  | [] => some []
  | .p n 0 :: l => match blkOf bs n with
    | some b => (capsOf bs l).map ((n, b) :: ·)
    | none => none
  | _ :: _ => none
/-- a call of a closure that hands back a slice and writes one captured cell -/
def planCw (C : Cx) (bs : List (Nat × Option Blk)) (nm m : Nat) (g : FuncId) (ts : List TypeId) (args cap : List V) : Pl := match C.cw g, rwOf C.P bs ts args, capsOf bs cap, enters C.P g with
  | some (j, sz), some rw, some cs, true => match cs[j]? with
    | some (n, b) => if 0 < sz ∧ b.c.length = 1 ∧ (cs.map (·.1)).Nodup ∧ nm ≠ n ∧ ((namesV args).all fun x => !(cs.map (·.1)).contains x) = true then .df (.callw g rw (cs.map (·.2.c))) (args ++ cap) (.tp [.sl sz, .one]) (some (.row nm)) (some ⟨[.x m [0]], 0, .ext sz⟩) (some (n, ⟨[.x m [1]], b.t, .cells⟩)) else .no
    | none => .no
  | _, _, _, _ => .no
def frOf (C : Cx) (c : Go.Call) : Bool := match c.args.toList with
  | Operand.tmp k :: _ => C.fr.contains k
  | _ => false
/-- a slice that is made, small and of known length -/
def mkKn : V → V → Option (Int × Int)
  | .k (.int _ L), .k (.int _ M) => if M ≤ 256 then some (L, M) else none
  | _, _ => none
theorem mkKn_eq {x y : V} {L M : Int} (h : mkKn x y = some (L, M)) : ∃ k k', x = .k (.int k L) ∧ y = .k (.int k' M) := by
  unfold mkKn at h
  split at h
  · split at h
    · cases h; exact ⟨_, _, rfl, rfl⟩
    · cases h
  · cases h
def planV0 (C : Cx) (sh : List Sh) (nm : Nat) (op : Op) (vs : List V) (bs : List (Nat × Option Blk)) : Pl :=
  match op, vs with
  | .move _, [v] => .ef v none none
  | .assign _, [v] => .ef v none none
  | .pick _ _ _, [c, a, b] => match c with
    | .k (.bool true) => .ef a none none
    | .k (.bool false) => .ef b none none
    | .x i path => .br i path
    | _ => .no
  | .box t _, [v] => match v with
    | .a cs => .ef (.p nm 0) (some (mkB cs t)) none
    | v => if v.one sh then .ef (.p nm 0) (some (mkB [v] t)) none else .no
  | .alloc t, [] => match zeroOf C.P t with
    | some (.agg cs) => .ef (.p nm 0) (some (mkB (cs.toList.map .k) t)) none
    | some v => if v.oneCell' then .ef (.p nm 0) (some (mkB [.k v] t)) none else .no
    | none => .no
  | .load t _, [.p n o] => match blkOf bs n, rowOf C.P t, szOf C.P t with
    | some b, some true, some sz => if o + sz ≤ b.c.length then .ef (.a ((b.c.drop o).take sz)) none none else .no
    | some b, some false, _ => match b.c[o]? with
      | some v => .ef v none none
      | none => .no
    | _, _, _ => .no
  | .load t _, [.ep s i sz o] => match rowOf C.P t, szOf C.P t with
    | some b, some n => planLd bs b n s i sz o
    | _, _ => .no
  | .store t _ _, [.p n o, v] => match blkOf bs n, szOf C.P t with
    | some b, some sz => if v.cells.length = sz ∧ o + sz ≤ b.c.length ∧ vonesB bs sh v.cells = true ∧ 0 < sz then .ef (.k undef) none (some (n, ⟨spliceV b.c o v.cells, b.t, b.k⟩)) else .no
    | _, _ => .no
  | .nilCheck _, [.p n o] => .ef (.p n o) none none
  | .fieldAddr t _ f, [.p n o] => match fieldOff C.P t f with
    | some d => .ef (.p n (o + d)) none none
    | none => .no
  | .fieldAddr t _ f, [.ep s i sz o] => match fieldOff C.P t f with
    | some d => planEp bs s i sz (o + d)
    | none => .no
  | .field t _ f, [.a cs] => match fldOf C.P t f with
    | some (off, e) => match rowOf C.P e, szOf C.P e with
      | some true, some sz => if off + sz ≤ cs.length then .ef (.a ((cs.drop off).take sz)) none none else .no
      | some false, _ => match cs[off]? with
        | some v => .ef v none none
        | none => .no
      | _, _ => .no
    | none => .no
  | .indexAddr t _ _, [.p n o, .k (.int _ i)] => match arrOf C.P t with
    | some (len, e) => match szOf C.P e with
      | some sz => if 0 ≤ i ∧ i < len then .ef (.p n (o + i.toNat * sz)) none none else .no
      | none => .no
    | none => .no
  | .indexAddr t _ _, [.p _ _, .x i path] => match arrOf C.P t with
    | some (len, _) => .sp i path len
    | none => .no
  | .indexAddr t _ _, [.sl n o l _, .k (.int _ i)] => match slOf C.P t with
    | some e => match szOf C.P e with
      | some sz => if 0 ≤ i ∧ i < l then .ef (.p n (o + i.toNat * sz)) none none else .no
      | none => .no
    | none => .no
  | .indexAddr t _ _, [.sl _ _ l _, .x i path] => .sp i path l
  | .indexAddr t _ _, [.x s p, i] => match slOf C.P t with
    | some e => match szOf C.P e with
      | some sz => planEp bs (.x s p) i sz 0
      | none => .no
    | none => .no
  | .indexAddr t _ _, [.row n, i] => match slOf C.P t with
    | some e => match szOf C.P e with
      | some sz => planEp bs (.row n) i sz 0
      | none => .no
    | none => .no
  | .store t _ _, [.ep (.row n) i sz o, v] => match rowOfN bs n, szOf C.P t with
    | some (c, e, sz'), some k => match stru c sz o i k with
      | some (ds, p) => if sz' = sz ∧ v.cells.length = k ∧ 0 < k ∧ vonesB bs sh v.cells = true then .ef (.k undef) none (some (n, ⟨[.a (spliceV ds p v.cells)], e, .row sz⟩)) else .no
      | none => if sz' = sz ∧ v.cells.length = k ∧ 0 < k ∧ vones sh v.cells = true then .df (.rset sz o) (.cat c :: i :: v.cells) .any (some (.k undef)) none (some (n, ⟨[.x sh.length []], e, .row sz⟩)) else .no
    | _, _ => .no
  | .index t _ _, [.a cs, .k (.int _ i)] => match arrOf C.P t with
    | some (len, e) => match rowOf C.P e, szOf C.P e with
      | some true, some sz => if 0 ≤ i ∧ i < len ∧ i.toNat * sz + sz ≤ cs.length then .ef (.a ((cs.drop (i.toNat * sz)).take sz)) none none else .no
      | some false, some 1 => if 0 ≤ i ∧ i < len then (match cs[i.toNat]? with
        | some v => .ef v none none
        | none => .no) else .no
      | _, _ => .no
    | none => .no
  | .index t _ _, [.a _, .x i path] => match arrOf C.P t with
    | some (len, _) => .sp i path len
    | none => .no
  | .extract _ j, [.t vs] => match vs[j]? with
    | some v => .ef v none none
    | none => .no
  | .binOp op t _ _ _, [x, y] => match x, y with
    | .a xs, .a ys => match kindsT C.P 20 t, rowOf C.P t, op with
      | some l, some true, .eql => if C.P.eqGuardType C.P.depth t = false ∧ xs.length = l.length ∧ ys.length = l.length then .df (.eqr false l.length l) (xs ++ ys) .one none none none else .no
      | some l, some true, .neq => if C.P.eqGuardType C.P.depth t = false ∧ xs.length = l.length ∧ ys.length = l.length then .df (.eqr true l.length l) (xs ++ ys) .one none none none else .no
      | _, _, _ => .no
    | x, .k (.slice none 0 0) => match slOf C.P t, op with
      | some _, .eql => .df (.snil false) [x] .one none none none
      | some _, .neq => .df (.snil true) [x] .one none none none
      | _, _ => .no
    | x, y => if isBoolT C.P t = true then sc2 (.binb op) (boolV op) x y else sc2 (.bin op t) (binV op) x y
  | .unOp .not _ _, [x] => sc1 .not notV x
  | .unOp .neg _ _, [x] => sc1 .neg negV x
  | .convert src dst _, [x] => match C.P.underlying src, C.P.underlying dst with
    | some (.int _), some (.int k) => sc1 (.conv k) (convV k) x
    | _, _ => .no
  | .slice t _ lo hi mx, .row n :: args => planSx C bs nm sh.length t lo.isSome hi.isSome mx.isSome n args
  | .slice t _ lo hi mx, x :: bs => planSl C t lo.isSome hi.isSome mx.isSome x bs
  | .makeFunc fn first _, vs => .ef (.f fn (vs.take first.size) (vs.drop first.size)) none none
  | .build t parts, vs => match placeOf C.P t, zeroOf C.P t with
    | some pl, some (.agg z) => match fillV pl (z.toList.map .k) ((parts.toList.map (·.1)).zip vs) with
      | some cs => if parts.size = vs.length ∧ vs.all (fun v => v.isA || v.one sh) = true then .ef (.a cs) none none else .no
      | none => .no
    | _, _ => .no
  | .buildSlice t n parts, vs => match slOf C.P t with
    | some e => match szOf C.P e, zeroOf C.P e with
      | some sz, some _ => if n = 0 ∧ parts.size = 0 ∧ 0 < sz then .ef (.row nm) (some ⟨[], e, .row sz⟩) none else if parts.toList.map (·.1) = List.range n ∧ vs.length = n ∧ 0 < n * sz ∧ n * sz ≤ 16777216 ∧ vs.all (fun v => v.cells.length == sz && (v.isA || v.one sh)) = true then .ef (.sl nm 0 n n) (some (mkB (vs.flatMap V.cells) e)) none else .no
      | _, _ => .no
    | none => .no
  | .call c, vs => match c.callee, vs with
    | .builtin .append, [x, y] => match c.argTypes.toList with
      | [t, t'] => if t = t' then (match x with
        | .x i p => planAx C bs nm sh.length (frOf C c) t (.x i p) y
        | x => planAp C bs nm sh.length t x y) else .no
      | _ => .no
    | .builtin .len, [.row n] => match (c.argTypes[0]?).bind (lenT C.P), rdOfN bs n with
      | some false, some (c, _, sz) => .df (.rlen sz) [.cat c] .one none none none
      | _, _ => .no
    | .builtin .len, [x] => match (c.argTypes[0]?).bind (lenT C.P) with
      | some str => (match str, x with
        | false, .sl _ _ l _ => .ef (.k (.int .i64 l)) none none
        | str, x => sc1 (.len str) (kLen str) x)
      | none => .no
    | .builtin .cap, [x] => match (c.argTypes[0]?).bind (lenT C.P) with
      | some false => (match x with
        | .sl _ _ _ l => .ef (.k (.int .i64 l)) none none
        | x => sc1 .cap kCap x)
      | _ => .no
    | .builtin .min, [x, y] => sc2 .min minV x y
    | .builtin .max, [x, y] => sc2 .max maxV x y
    | .value _, .f (.func g) [] cap :: args => if cap.isEmpty = true then planCl C bs nm sh.length g c.argTypes.toList args else planCw C bs nm sh.length g c.argTypes.toList args cap
    | _, _ => .no
  | .makeSlice t _ _, [x, y] => match slOf C.P t with
    | some e => match szOf C.P e, zeroOf C.P e, bytesOf C.P e with
      | some sz, some z, some by' => match mkKn x y with
        | some (L, M) => if 0 ≤ L ∧ L = M ∧ M ≤ 65536 ∧ (by' : Int) * M ≤ 281474976710656 then .ef (.sl nm 0 L.toNat M.toNat) (some (mkB ((madeCells z.cells (M.toNat * sz)).toList.map .k) e)) none else .no
        | none => if 0 < sz then .df (.mks z sz by') [x, y] .any (some (.row nm)) (some ⟨[.x sh.length []], e, .row sz⟩) none else .no
      | _, _, _ => .no
    | none => .no
  | _, _ => .no
/-- a call of a method value that writes its receiver -/
def planCp (C : Cx) (bs : List (Nat × Option Blk)) (m : Nat) (g : FuncId) (n : Nat) (ts : List TypeId) (args : List V) : Pl := match C.cp g, blkOf bs n, rwOf C.P bs ts args, enters C.P g with
  | some L, some b, some rw, true => if b.c.length = L ∧ ((namesV args).all fun x => !([n] : List Nat).contains x) = true then .df (.callp g rw b.t) (args ++ b.c) (.ag L) (some (.k (.tuple #[]))) none (some (n, ⟨(List.range L).map fun j => .x m [j], b.t, b.k⟩)) else .no
  | _, _, _, _ => .no
/-- a call that hands back a row of one's own -/
def planRc (C : Cx) (bs : List (Nat × Option Blk)) (nm m : Nat) (g : FuncId) (ts : List TypeId) (args : List V) : Pl := match C.rc g, enters C.P g with
  | some true, true => match args, ts with
    | .row n :: r, t :: ts' => match rowOfN bs n, slOf C.P t, rwOf C.P bs ts' r with
      | some (c, e, sz), some e', some rw => if e = e' ∧ 0 < sz ∧ ((namesV r).all fun x => !([n] : List Nat).contains x) = true then .df (.callr g rw sz e) (.cat c :: r) .any (some (.row nm)) (some ⟨[.x m []], e, .row sz⟩) (some (n, tomb)) else .no
      | _, _, _ => .no
    | _, _ => .no
  | some false, true => match ts with
    | t :: _ => match slOf C.P t, rwOf C.P bs ts args with
      | some e, some rw => match szOf C.P e with
        | some sz => if 0 < sz then .df (.calln g rw sz e) args .any (some (.row nm)) (some ⟨[.x m []], e, .row sz⟩) none else .no
        | none => .no
      | _, _ => .no
    | _ => .no
  | _, _ => .no
/-- are bytes turned into a string -/
def isB2s (P : Program) (src dst : TypeId) : Bool := match slOf P src, P.underlying dst with
  | some e, some .string => (match P.underlying e with
    | some (.int .u8) => true
    | _ => false)
  | _, _ => false
/-- bytes into a string -/
def planBs (bs : List (Nat × Option Blk)) (x : V) : Pl := match x with
  | .row n => match rdOfN bs n with
    | some (c', _, sz') => if sz' = 1 then .df .b2s [.cat c'] .one none none none else .no
    | none => .no
  | .sl n o l _ => match blkOf bs n with
    | some B => if o + l ≤ B.c.length then .df .b2s [.a ((B.c.drop o).take l)] .one none none none else .no
    | none => .no
  | .x i path => .df .b2sx [.x i path] .one none none none
  | _ => .no
/-- an append of a string's bytes -/
def planAs (C : Cx) (bs : List (Nat × Option Blk)) (nm m : Nat) (t t' : TypeId) (n : Nat) (y : V) : Pl := match C.P.underlying t', slOf C.P t with
  | some .string, some e => match szOf C.P e, bytesOf C.P e, zeroOf C.P e with
    | some 1, some by', some z => match apOld C.P bs e 1 (.row n) with
      | some (c, old) => if z.cells.size = 1 ∧ by' ≤ 1000000 then .df (.aps by') [.cat c, y] .any (some (.row nm)) (some ⟨c ++ [.x m []], e, .row 1⟩) (old.map fun n => (n, tomb)) else .no
      | none => .no
    | _, _, _ => .no
  | _, _ => .no
/-- a map's key kind, how many cells its elements have, are they structs, their zero value -/
def mapOf (P : Program) (t : TypeId) : Option (IntKind × Nat × Bool × Value) := match P.underlying t with
  | some (.map k e) => match P.underlying k, rowOf P e, szOf P e, zeroOf P e with
    | some (.int K), some b, some sz, some z => some (K, sz, b, z)
    | _, _, _, _ => none
  | _ => none
def mpB (b : Blk) : Option (List V × TypeId × Nat × Bool) := match b.k with
  | .mp k ag => some (b.c, b.t, k, ag)
  | _ => none
def mpOf (bs : List (Nat × Option Blk)) (n : Nat) : Option (List V × TypeId × Nat × Bool) := (blkAny bs n).bind mpB
/-- a look into a map -/
def planMl (P : Program) (bs : List (Nat × Option Blk)) (t : TypeId) (ok : Bool) (n : Nat) (x : V) : Pl := match mapOf P t, mpOf bs n with
  | some (K, sz, b, z), some (c, _, k, ag) => if k = sz ∧ ag = b ∧ (ag = true ∨ 0 < k) then .df (.mlk ok K k ag z) [.cat c, x] (if ok = true then .tp [if ag then .ag k else .one, .one] else if ag then .ag k else .one) none none none else .no
  | _, _ => .no
/-- a store into a map -/
def planMs (P : Program) (bs : List (Nat × Option Blk)) (m : Nat) (t : TypeId) (n : Nat) (x v : V) : Pl := match mapOf P t, mpOf bs n with
  | some (K, sz, b, _), some (c, bt, k, ag) => if k = sz ∧ ag = b ∧ (ag = true ∨ 0 < k) ∧ v.isA = ag ∧ v.cells.length = k then .df (.mset K k ag) (.cat c :: x :: v.cells) .any (some (.k undef)) none (some (n, ⟨[.x m []], bt, .mp k ag⟩)) else .no
  | _, _ => .no
/-- a value of an interface asked for its type -/
def planTa (P : Program) (ta : TypeId) (ok : Bool) (t : TypeId) (v : V) : Pl := match P.underlying ta, zeroOf P ta with
  | some (.interface _), _ => .no
  | some _, some z => if t = ta then .ef (if ok = true then .t [v, .k (.bool true)] else v) none none else if ok = true ∧ z.oneCell' = true then .ef (.t [.k z, .k (.bool false)]) none none else .no
  | _, _ => .no
def notIface (P : Program) (t : TypeId) : Bool := match P.underlying t with
  | some (.interface _) => false
  | some _ => true
  | none => false
/-- further operations: package variables, own arrays at places that are not known, copies, bytes of strings -/
def planN (C : Cx) (sh : List Sh) (nm : Nat) (op : Op) (vs : List V) (bs : List (Nat × Option Blk)) : Pl :=
  match op, vs with
  | .load t _, [.k (.pointer (some ad))] => match rowOf C.P t, szOf C.P t with
    | some b, some n => planLd bs b n (.k (.slice (some ad) 1 1)) (.k (.int .i64 0)) n 0
    | _, _ => .no
  | .load t _, [.ep (.sl n o l _) i sz o'] => match rowOf C.P t, szOf C.P t, blkOf bs n with
    | some b, some k, some B => if o + l * sz ≤ B.c.length ∧ 0 < sz then (if b then .df (.relems sz o' k) [.cat [.a ((B.c.drop o).take (l * sz))], i] (.ag k) none none none else .df (.relem sz o') [.cat [.a ((B.c.drop o).take (l * sz))], i] .one none none none) else .no
    | _, _, _ => .no
  | .store t _ _, [.ep (.sl n o l _) i sz o', v] => match blkOf bs n, szOf C.P t with
    | some B, some k => if o + l * sz ≤ B.c.length ∧ 0 < sz ∧ v.cells.length = k ∧ 0 < k ∧ vones sh v.cells = true then .df (.rset sz o') (.cat [.a ((B.c.drop o).take (l * sz))] :: i :: v.cells) (.ag (l * sz)) (some (.k undef)) none (some (n, ⟨spliceV B.c o ((List.range (l * sz)).map fun j => .x sh.length [j]), B.t, B.k⟩)) else .no
    | _, _ => .no
  | .indexAddr t _ _, [.k (.pointer (some ad)), i] => match arrOf C.P t with
    | some (len, e) => match szOf C.P e with
      | some sz => planEp bs (.k (.slice (some ad) len len)) i sz 0
      | none => .no
    | none => .no
  | .indexAddr t _ _, [.p n o, .x i path] => if C.arr then (match arrOf C.P t with
    | some (len, e) => match szOf C.P e with
      | some sz => planEp bs (.sl n o len len) (.x i path) sz 0
      | none => .no
    | none => .no) else .no
  | .indexAddr t _ _, [.sl n o l c, .x i path] => if C.arr then (match slOf C.P t with
    | some e => match szOf C.P e with
      | some sz => planEp bs (.sl n o l c) (.x i path) sz 0
      | none => .no
    | none => .no) else .no
  | .index t _ _, [.a cs, .x i path] => if C.arr then (match arrOf C.P t with
    | some (len, e) => match rowOf C.P e, szOf C.P e with
      | some false, some 1 => if cs.length = len then .df (.relem 1 0) [.cat [.a cs], .x i path] .one none none none else .no
      | _, _ => .no
    | none => .no) else .no
  | .makeSlice t _ _, [.k (.int _ L), .k (.int _ M)] => match slOf C.P t with
    | some e => match szOf C.P e, zeroOf C.P e, bytesOf C.P e with
      | some sz, some z, some by' => if 0 ≤ L ∧ L < M ∧ M ≤ 256 ∧ (by' : Int) * M ≤ 281474976710656 then .ef (.sl nm 0 L.toNat M.toNat) (some (mkB ((madeCells z.cells (M.toNat * sz)).toList.map .k) e)) none else .no
      | _, _, _ => .no
    | none => .no
  | .convert src dst _, [x] => match C.P.underlying src, slOf C.P dst with
    | some .string, some e => match C.P.underlying e with
      | some (.int .u8) => .df .s2b [x] .any (some (.row nm)) (some ⟨[.x sh.length []], 0, .ext 1⟩) none
      | _ => .no
    | _, _ => if isB2s C.P src dst = true then planBs bs x else .no
  | .call c, [.sl n o l _, y] => match c.callee, c.argTypes.toList with
    | .builtin .copy, [t, t'] => match slOf C.P t, blkOf bs n with
      | some e, some B => match szOf C.P e with
        | some 1 => if o + l ≤ B.c.length then (match y with
          | .sl n' o' l' _ => match blkOf bs n' with
            | some B' => if o' + l' ≤ B'.c.length ∧ vones sh ((B'.c.drop o').take (Nat.min l' l)) = true ∧ 0 < l' then .ef (.k (.int .i64 ((Nat.min l' l : Nat) : Int))) none (some (n, ⟨spliceV B.c o ((B'.c.drop o').take (Nat.min l' l)), B.t, B.k⟩)) else .no
            | none => .no
          | .row n' => match rdOfN bs n' with
            | some (c', _, sz') => if sz' = 1 then .df (.cpyx l) [.a ((B.c.drop o).take l), .cat c'] (.tp [.one, .ag l]) (some (.x sh.length [0])) none (some (n, ⟨spliceV B.c o ((List.range l).map fun j => .x sh.length [1, j]), B.t, B.k⟩)) else .no
            | none => .no
          | .x i path => .df (.cpy 1 l) [.a ((B.c.drop o).take l), .x i path] (.tp [.one, .ag l]) (some (.x sh.length [0])) none (some (n, ⟨spliceV B.c o ((List.range l).map fun j => .x sh.length [1, j]), B.t, B.k⟩))
          | _ => .no) else .no
        | _ => .no
      | _, _ => .no
    | _, _ => .no
  | .slice t _ none (some _) none, [.row n, .k (.int _ 0)] => match rowOfN bs n, (slOf C.P t).bind (szOf C.P) with
    | some (_, e, sz), some sz' => if sz' = sz then .ef (.row nm) (some ⟨[], e, .row sz⟩) (some (n, tomb)) else .no
    | _, _ => .no
  | .slice t _ none (some _) none, [.k (.slice none 0 0), .k (.int _ 0)] => match (slOf C.P t).bind (szOf C.P) with
    | some _ => .ef (.k (.slice none 0 0)) none none
    | none => .no
  | .call c, [.k (.slice none 0 0), y] => match c.callee, c.argTypes.toList with
    | .builtin .append, [t, t'] => match C.P.underlying t', slOf C.P t with
      | some (.int _), some e => match szOf C.P e, bytesOf C.P e, zeroOf C.P e with
        | some sz, some by', some z => if 0 < sz ∧ z.cells.size = sz then .df (.apz z sz by') [y] .any (some (.row nm)) (some ⟨[.x sh.length []], e, .row sz⟩) none else .no
        | _, _, _ => .no
      | _, _ => .no
    | _, _ => .no
  | .call c, .f (.func g) [.p n 0] [] :: args => match c.callee with
    | .value _ => planCp C bs sh.length g n c.argTypes.toList args
    | _ => .no
  | .unOp .xor _ _, [.x i path] => .df .cpl [.x i path] .one none none none
  | .call c, [.row n, y] => match c.callee, c.argTypes.toList with
    | .builtin .append, [t, t'] => planAs C bs nm sh.length t t' n y
    | _, _ => .no
  | .makeInterface t _, [v] => if notIface C.P t = true then .ef (.ifc t v) none none else .no
  | .typeAssert _ _ ta ok, [.ifc t v] => planTa C.P ta ok t v
  | .makeMap t none, [] => match mapOf C.P t with
    | some (_, sz, b, _) => .ef (.mapV nm) (some ⟨[.a []], 0, .mp sz b⟩) none
    | none => .no
  | .lookup t _ _ ok, [.mapV n, x] => planMl C.P bs t ok n x
  | .mapUpdate t _ _ _, [.mapV n, x, v] => planMs C.P bs sh.length t n x v
  | .call c, .f (.func g) [] [] :: args => match c.callee with
    | .value _ => planRc C bs nm sh.length g c.argTypes.toList args
    | _ => .no
  | _, _ => .no
theorem mpOf_eq {hp : List (Option Blk)} {vs : List V} {n k : Nat} {c : List V} {t : TypeId} {ag : Bool} (h : mpOf (blks hp vs) n = some (c, t, k, ag)) : hp[n]? = some (some ⟨c, t, .mp k ag⟩) := by
  obtain ⟨b', h1, h2⟩ := Option.bind_eq_some_iff.1 h
  unfold mpB at h2
  split at h2
  · rename_i hk
    obtain ⟨b1, b2, b3⟩ := b'
    simp only [Option.some.injEq, Prod.mk.injEq] at h2 hk
    obtain ⟨rfl, rfl, rfl, rfl⟩ := h2
    subst hk
    exact blkAny_eq h1
  · cases h2
theorem mapOf_eq {P : Program} {t : TypeId} {K : IntKind} {k : Nat} {b : Bool} {z : Value} (h : mapOf P t = some (K, k, b, z)) : ∃ kt e, P.underlying t = some (.map kt e) ∧ P.underlying kt = some (.int K) ∧ rowOf P e = some b ∧ szOf P e = some k ∧ zeroOf P e = some z := by
  unfold mapOf at h
  split at h
  · rename_i kt e hu
    split at h
    · rename_i K' b' k' z' h1 h2 h3 h4
      simp only [Option.some.injEq, Prod.mk.injEq] at h
      obtain ⟨rfl, rfl, rfl, rfl⟩ := h
      exact ⟨kt, e, hu, h1, h2, h3, h4⟩
    · cases h
  · cases h
def planV (C : Cx) (sh : List Sh) (nm : Nat) (op : Op) (vs : List V) (bs : List (Nat × Option Blk)) : Pl := match planN C sh nm op vs bs with
  | .no => planV0 C sh nm op vs bs
  | p => p
theorem planV_eq {C : Cx} {sh : List Sh} {nm : Nat} {op : Op} {vs : List V} {bs : List (Nat × Option Blk)} {p : Pl} (h : planV C sh nm op vs bs = p) : (planN C sh nm op vs bs = p ∧ p ≠ .no) ∨ (planN C sh nm op vs bs = .no ∧ planV0 C sh nm op vs bs = p) := by
  unfold planV at h
  split at h
  · rename_i hn; exact .inr ⟨hn, h⟩
  · rename_i hn
    refine .inl ⟨h, ?_⟩
    rw [← h]
    exact hn
/-- operations that look at no block, or ask for a row's length alone -/
def shapeOp : Op → Bool
  | .load _ _ => false
  | .store _ _ _ => false
  | .slice _ _ _ _ _ => false
  | .convert _ _ _ => false
  | .lookup _ _ _ _ => false
  | .mapUpdate _ _ _ _ => false
  | .call c => match c.callee with
    | .builtin .len => true
    | _ => false
  | _ => true
/-- a call of a function -/
def callV : Op → Bool
  | .call c => match c.callee with
    | .value _ => true
    | _ => false
  | _ => false
def nestV (hp : List (Option Blk)) : List V → List V
  | [] => []
  | v :: l => (match v with
    | .a cs => cs.filter V.isRef
    | .sl n _ _ _ => match ((hp[n]?).join).bind cellsB with
      | some b => b.c.filter V.isRef
      | none => []
    | _ => []) ++ nestV hp l
/-- what an operation looks at: a call sees the slices within its arguments, too -/
def capsV : List V → List V
  | .f _ fs cap :: _ => fs ++ cap
  | _ => []
def storeV : Op → Bool
  | .store _ _ _ => true
  | _ => false
def deepV (hp : List (Option Blk)) (op : Op) (vs : List V) : List V := if callV op || storeV op then vs ++ (capsV vs ++ nestV hp vs) else vs
/-- the blocks that an operation looks at -/
def S.see (s : S) (op : Op) (vs : List V) : List (Nat × Option Blk) := if shapeOp op then blks s.ln vs else blks s.hp (deepV s.hp op vs)
end SX
end Go.Proofs.Ytmkigejhgpoleaa
