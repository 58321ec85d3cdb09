/-
  A symbolic executor, second part: the operations.
-/
import Derived.Test.YtklppgkolcpbbaaSx1
namespace Go.Proofs.Ytklppgkolcpbbaa
set_option linter.unusedSimpArgs false
set_option linter.unusedVariables false
open Go Go.RowKit
namespace SX

/-- an argument of a call: the value, and for a slice its elements' cells -/
structure Arg where
  v : Value
  sz : Nat
  cells : List Value
def Arg.rd (W : World) (x : Arg) : Prop := match x.v with
  | .slice A n _ => Rd W x.sz A n x.cells
  | _ => x.sz = 0
/-- the program, what is known of its functions, the shapes of their results, the slices whose contents are known -/
structure Cx where
  P : Program
  R : FuncId → List Arg → Value → Prop
  shp : FuncId → Option Sh
  K : Value → Nat → List Value → Prop

inductive Rw where
  | no
  | own (sz : Nat) (cs : List V)
  | ext (sz : Nat)
  | row (sz : Nat) (cs : List V)
/-- what is asked of values that are not known -/
inductive Opq where
  | bin (op : BinOp) (t : TypeId)
  | not
  | neg
  | len (str : Bool)
  | cap
  | min
  | max
  | conv (k : IntKind)
  | bnd
  | elem (sz o : Nat)
  | elems (sz o n : Nat)
  | call (f : FuncId) (rw : List Rw)
  | eqr (neq : Bool) (n : Nat) (l : List CK)
  | slc (str : Bool) (sz : Nat) (lo hi mx : Bool)
  | rlen (sz : Nat)
  | rbnd (sz : Nat)
  | relem (sz o : Nat)
  | relems (sz o n : Nat)
  | rset (sz o : Nat)
  | app (sz by' : Nat) (src : Rw)

/-- an operator on numbers, strings and truth values -/
def binV (op : BinOp) : Value → Value → Option Value
  | .int k i, .int k' j => if k = k' then (match op with
    | .quo => if j = 0 then none else some (.int k (k.wrap (i.tdiv j)))
    | .rem => if j = 0 then none else some (.int k (i.tmod j))
    | op => binI op k i j) else none
  | .string p, .string q => match op with
    | .eql => some (.bool (decide (p = q)))
    | .neq => some (.bool (!decide (p = q)))
    | _ => none
  | _, _ => none
def kLen : Bool → Value → Option Value
  | false, .slice _ n _ => some (.int .i64 n)
  | true, .string s => some (.int .i64 s.size)
  | _, _ => none
def kCap : Value → Option Value
  | .slice _ _ n => some (.int .i64 n)
  | _ => none
def minV : Value → Value → Option Value
  | .int k i, .int k' j => if k = k' then some (.int k (minI i j)) else none
  | _, _ => none
def maxV : Value → Value → Option Value
  | .int k i, .int k' j => if k = k' then some (.int k (maxI i j)) else none
  | _, _ => none
def notV : Value → Option Value
  | .bool b => some (.bool !b)
  | _ => none
def negV : Value → Option Value
  | .int k i => some (.int k (k.wrap (-i)))
  | _ => none
def convV (k : IntKind) : Value → Option Value
  | .int _ i => some (.int k (k.wrap i))
  | _ => none
/-- bounds of a slice -/
def bndV (y : Nat) : Value → Option Nat
  | .int _ i => if 0 ≤ i ∧ i ≤ (y : Int) then some i.toNat else none
  | _ => none
def boundsV (len cap : Nat) (lo hi mx : Option Value) : Option (Nat × Nat × Nat) :=
  (match mx with | some v => bndV cap v | none => some cap).bind fun m =>
  (match hi, mx with | some v, _ => bndV m v | none, none => some len | none, some _ => none).bind fun h =>
  (match lo with | some v => bndV h v | none => some 0).bind fun l => some (l, h, m)
/-- the operands that are there, one after the other -/
def optsV {α : Type} : Bool → Bool → Bool → List α → Option (Option α × Option α × Option α)
  | false, false, false, [] => some (none, none, none)
  | true, false, false, [a] => some (some a, none, none)
  | false, true, false, [b] => some (none, some b, none)
  | true, true, false, [a, b] => some (some a, some b, none)
  | false, true, true, [b, c] => some (none, some b, some c)
  | true, true, true, [a, b, c] => some (some a, some b, some c)
  | _, _, _, _ => none
def slcV (str : Bool) (sz : Nat) (lo hi mx : Bool) : List Value → Option Value
  | x :: bs => (optsV lo hi mx bs).bind fun (l, h, m) => match str, x with
    | false, .slice a len cap => (boundsV len cap l h m).map fun (l, h, m) => .slice (if m = l then a else a.map (·.add (l * sz))) (h - l) (m - l)
    | true, .string s => if m.isSome then none else (boundsV s.size s.size l h none).map fun (l, h, _) => .string (s.extract l h)
    | _, _ => none
  | [] => none
/-- the index is within the slice -/
def Bnd : Value → Value → Prop
  | .slice (some _) n _, .int _ i => 0 ≤ i ∧ i < n
  | _, _ => False
def idxOf : Value → Nat
  | .int _ i => i.toNat
  | _ => 0
def isSl : Value → Bool
  | .slice _ _ _ => true
  | _ => false
mutual
def Sh.exp (i : Nat) : Sh → List Nat → V
  | .one, path => .x i path
  | .any, path => .x i path
  | .ag n, path => .a ((List.range n).map fun j => .x i (path ++ [j]))
  | .tp l, path => .t (Sh.expL i l path 0)
def Sh.expL (i : Nat) : List Sh → List Nat → Nat → List V
  | [], _, _ => []
  | s :: l, path, j => s.exp i (path ++ [j]) :: Sh.expL i l path (j + 1)
end
def argsOk (C : Cx) (ρ : List Value) (α : Nat → AV) : List Rw → List V → List Arg → Prop
  | [], [], [] => True
  | .no :: r, v :: vs, x :: xs => x = ⟨v.den ρ α, 0, []⟩ ∧ isSl (v.den ρ α) = false ∧ argsOk C ρ α r vs xs
  | .own sz cs :: r, v :: vs, x :: xs => x = ⟨v.den ρ α, sz, denL ρ α cs⟩ ∧ argsOk C ρ α r vs xs
  | .ext sz :: r, v :: vs, x :: xs => x.v = v.den ρ α ∧ x.sz = sz ∧ C.K (v.den ρ α) sz x.cells ∧ argsOk C ρ α r vs xs
  | .row sz cs :: r, v :: vs, x :: xs => x = ⟨v.den ρ α, sz, (denL ρ α cs).flatMap cellsV⟩ ∧ argsOk C ρ α r vs xs
  | _, _, _ => False
/-- the index is within a row -/
def Rbnd (len sz : Nat) : Value → Prop
  | .int _ i => 0 ≤ i ∧ i < ((len / sz : Nat) : Int)
  | _ => False
/-- a slice that may be appended -/
def srcOk (x : Arg) : Prop := (∀ u ∈ x.cells, u.oneCell' = true) ∧ ((x.v = .slice none 0 0 ∧ x.cells = []) ∨ ∃ ad m c, x.v = .slice (some ad) m c)
/-- what is asked holds of the value -/
def Opq.rel (C : Cx) (ρ : List Value) (α : Nat → AV) : Opq → List V → Value → Prop
  | .bin op _, [x, y], v => binV op (x.den ρ α) (y.den ρ α) = some v
  | .not, [x], v => notV (x.den ρ α) = some v
  | .neg, [x], v => negV (x.den ρ α) = some v
  | .len b, [x], v => kLen b (x.den ρ α) = some v
  | .cap, [x], v => kCap (x.den ρ α) = some v
  | .min, [x, y], v => minV (x.den ρ α) (y.den ρ α) = some v
  | .max, [x, y], v => maxV (x.den ρ α) (y.den ρ α) = some v
  | .conv k, [x], v => convV k (x.den ρ α) = some v
  | .bnd, [s, i], v => Bnd (s.den ρ α) (i.den ρ α) ∧ v = .bool true
  | .elem sz o, [s, i], v => Bnd (s.den ρ α) (i.den ρ α) ∧ ∃ cells, C.K (s.den ρ α) sz cells ∧ cells[idxOf (i.den ρ α) * sz + o]? = some v
  | .elems sz o n, [s, i], v => Bnd (s.den ρ α) (i.den ρ α) ∧ ∃ cells, C.K (s.den ρ α) sz cells ∧ idxOf (i.den ρ α) * sz + o + n ≤ cells.length ∧ v = .agg ((cells.drop (idxOf (i.den ρ α) * sz + o)).take n).toArray
  | .rlen sz, [c], v => v = .int .i64 ((cellsV (c.den ρ α)).length / sz : Nat)
  | .rbnd sz, [c, i], v => Rbnd (cellsV (c.den ρ α)).length sz (i.den ρ α) ∧ v = .bool true
  | .relem sz o, [c, i], v => Rbnd (cellsV (c.den ρ α)).length sz (i.den ρ α) ∧ (cellsV (c.den ρ α))[idxOf (i.den ρ α) * sz + o]? = some v
  | .relems sz o n, [c, i], v => Rbnd (cellsV (c.den ρ α)).length sz (i.den ρ α) ∧ idxOf (i.den ρ α) * sz + o + n ≤ (cellsV (c.den ρ α)).length ∧ v = .agg ((cellsV (c.den ρ α)).drop (idxOf (i.den ρ α) * sz + o) |>.take n).toArray
  | .rset sz o, c :: i :: vs, v => Rbnd (cellsV (c.den ρ α)).length sz (i.den ρ α) ∧ o + vs.length ≤ sz ∧ v = .agg ((cellsV (c.den ρ α)).take (idxOf (i.den ρ α) * sz + o) ++ denL ρ α vs ++ (cellsV (c.den ρ α)).drop (idxOf (i.den ρ α) * sz + o + vs.length)).toArray
  | .app sz by' src, [c, y], v => ∃ x, argsOk C ρ α [src] [y] [x] ∧ x.sz = sz ∧ srcOk x ∧ ((cellsV (c.den ρ α)).length + x.cells.length) / sz * by' ≤ 140737488355328 ∧ ((cellsV (c.den ρ α)).length + x.cells.length) / sz ≤ 140737488355328 ∧ v = .agg x.cells.toArray
  | .slc str sz lo hi mx, vs, v => slcV str sz lo hi mx (denL ρ α vs) = some v
  | .call f rw, vs, v => ∃ as, argsOk C ρ α rw vs as ∧ C.R f as v
  | .eqr neq n l, vs, v => ∃ b : Bool, (b = true ↔ denL ρ α (vs.take n) = denL ρ α (vs.drop n)) ∧ fits l (denL ρ α (vs.take n)) = true ∧ fits l (denL ρ α (vs.drop n)) = true ∧ v = .bool (neq ^^ b)
  | _, _, _ => False

inductive Pl where
  | ef (v : V) (new : Option Blk) (wr : Option (Nat × Blk))
  | df (q : Opq) (args : List V) (sh : Sh) (mk : Option V) (new : Option Blk) (wr : Option (Nat × Blk))
  | br (i : Nat) (path : List Nat)
  | sp (i : Nat) (path : List Nat) (n : Nat)
  | no

/-- the block names that values name -/
def names1 : V → List Nat
  | .p n _ => [n]
  | .sl n _ _ _ => [n]
  | .row n => [n]
  | .ep (.row n) _ _ _ => [n]
  | _ => []
def namesV (vs : List V) : List Nat := vs.flatMap names1
def blks (hp : List (Option Blk)) (vs : List V) : List (Nat × Option Blk) := (namesV vs).map fun n => (n, (hp[n]?).join)
def blkAny (bs : List (Nat × Option Blk)) (n : Nat) : Option Blk := (bs.find? fun e => e.1 == n).bind (·.2)
def cellsB (b : Blk) : Option Blk := match b.k with
  | .cells => some b
  | _ => none
/-- a block whose cells are known -/
def blkOf (bs : List (Nat × Option Blk)) (n : Nat) : Option Blk := (blkAny bs n).bind cellsB
/-- a row: its parts, the elements' type and size -/
def rowB (b : Blk) : Option (List V × TypeId × Nat) := match b.k with
  | .row sz => some (b.c, b.t, sz)
  | _ => none
def rowOfN (bs : List (Nat × Option Blk)) (n : Nat) : Option (List V × TypeId × Nat) := (blkAny bs n).bind rowB
theorem blkAny_eq {hp : List (Option Blk)} {vs : List V} {n : Nat} {b : Blk} (h : blkAny (blks hp vs) n = some b) : hp[n]? = some (some b) := by
  unfold blkAny blks at h
  generalize namesV vs = l at h
  induction l with
  | nil => simp at h
  | cons m l ih =>
    simp only [List.map_cons, List.find?_cons] at h
    split at h
    · rename_i hm
      have hm' : m = n := by simpa using hm
      subst hm'
      cases hq : hp[m]? with
      | none => simp [hq] at h
      | some o => simp [hq] at h; rw [h]
    · exact ih h
theorem blkOf_eq {hp : List (Option Blk)} {vs : List V} {n : Nat} {b : Blk} (h : blkOf (blks hp vs) n = some b) : hp[n]? = some (some b) ∧ b.k = .cells := by
  obtain ⟨b', h1, h2⟩ := Option.bind_eq_some_iff.1 h
  unfold cellsB at h2
  split at h2
  · rename_i hk
    obtain rfl : b' = b := by simpa using h2
    exact ⟨blkAny_eq h1, hk⟩
  · cases h2
theorem rowOfN_eq {hp : List (Option Blk)} {vs : List V} {n sz : Nat} {c : List V} {e : TypeId} (h : rowOfN (blks hp vs) n = some (c, e, sz)) : hp[n]? = some (some ⟨c, e, .row sz⟩) := by
  obtain ⟨b', h1, h2⟩ := Option.bind_eq_some_iff.1 h
  unfold rowB at h2
  split at h2
  · rename_i hk
    obtain ⟨b1, b2, b3⟩ := b'
    simp only [Option.some.injEq, Prod.mk.injEq] at h2 hk
    obtain ⟨rfl, rfl, rfl⟩ := h2
    subst hk
    exact blkAny_eq h1
  · cases h2
def slOf (P : Program) (t : TypeId) : Option TypeId := match P.underlying t with
  | some (.slice e) => some e
  | _ => none
theorem slOf_eq {P : Program} {t e : TypeId} (h : slOf P t = some e) : P.underlying t = some (.slice e) := by
  unfold slOf at h
  split at h
  · rename_i hu
    simp only [Option.some.injEq] at h
    rw [hu, h]
  · cases h
/-- is it a string (true) or a slice (false) -/
def lenT (P : Program) (t : TypeId) : Option Bool := match P.underlying t with
  | some .string => some true
  | some (.slice _) => some false
  | _ => none
/-- is it one cell -/
def V.one (sh : List Sh) : V → Bool
  | .k v => v.oneCell'
  | .x i path => match sh[i]? with
    | some s => s.leaf path
    | none => false
  | .a _ => false
  | .t _ => false
  | .row _ => false
  | .cat _ => false
  | _ => true
def V.cells : V → List V
  | .a cs => cs
  | v => [v]
def V.isA : V → Bool
  | .a _ => true
  | _ => false
def vones (sh : List Sh) (cs : List V) : Bool := cs.all (V.one sh)
def enters (P : Program) (f : FuncId) : Bool := match P.funcs[f]? with
  | some fn => !(fn.name == "runtime.NumGoroutine") && fn.body.isSome
  | none => false
def rwOf (P : Program) (bs : List (Nat × Option Blk)) : List TypeId → List V → Option (List Rw)
  | [], [] => some []
  | t :: ts, v :: vs => (match v, slOf P t with
    | .sl n o l _, some e => match szOf P e, blkOf bs n with
      | some sz, some b => if o + l * sz ≤ b.c.length then some (Rw.own sz ((b.c.drop o).take (l * sz))) else none
      | _, _ => none
    | .k (.slice none 0 _), some e => match szOf P e with
      | some sz => some (Rw.own sz [])
      | none => none
    | .x _ _, some e => match szOf P e with
      | some sz => some (Rw.ext sz)
      | none => none
    | .row n, some _ => (rowOfN bs n).map fun (r : List V × TypeId × Nat) => Rw.row r.2.2 r.1
    | .row _, none => none
    | .sl _ _ _ _, none => none
    | _, some _ => none
    | _, none => some Rw.no).bind fun r => (rwOf P bs ts vs).map (r :: ·)
  | _, _ => none
/-- values that are known -/
def kList : List V → Option (List Value)
  | [] => some []
  | .k v :: l => (kList l).map (v :: ·)
  | _ => none
def sc1 (q : Opq) (f : Value → Option Value) : V → Pl
  | .k c => match f c with
    | some v => if v.oneCell' then .ef (.k v) none none else .no
    | none => .no
  | x => .df q [x] .one none none none
def sc2 (q : Opq) (f : Value → Value → Option Value) : V → V → Pl
  | .k c, .k d => match f c d with
    | some v => if v.oneCell' then .ef (.k v) none none else .no
    | none => .no
  | x, y => .df q [x, y] .one none none none
/-- the parts of a struct or an array laid over its zero -/
def spliceV (c : List V) (off : Nat) (cs : List V) : List V := c.take off ++ cs ++ c.drop (off + cs.length)
def fillV (place : Nat → Option (Nat × Nat)) : List V → List (Nat × V) → Option (List V)
  | c, [] => some c
  | c, (i, v) :: r => match place i with
    | some (off, sz) => if v.cells.length = sz ∧ off + sz ≤ c.length then fillV place (spliceV c off v.cells) r else none
    | none => none
def placeOf (P : Program) (t : TypeId) : Option (Nat → Option (Nat × Nat)) := match P.underlying t with
  | some (.struct _) => (placesOf P t).map fun ps => fun i => ps[i]?
  | some (.array _ e) => (szOf P e).map fun sz => fun i => some (i * sz, sz)
  | _ => none

/-- the address of a part of an element -/
def planEp (bs : List (Nat × Option Blk)) (s i : V) (sz o : Nat) : Pl := match s with
  | .row n => match rowOfN bs n with
    | some (c, _, sz') => if sz' = sz then .df (.rbnd sz) [.cat c, i] .one (some (.ep s i sz o)) none none else .no
    | none => .no
  | s => .df .bnd [s, i] .one (some (.ep s i sz o)) none none
/-- a part of an element -/
def planLd (bs : List (Nat × Option Blk)) (b : Bool) (n : Nat) (s i : V) (sz o : Nat) : Pl := match s with
  | .row m => match rowOfN bs m with
    | some (c, _, sz') => if sz' = sz then (if b then .df (.relems sz o n) [.cat c, i] (.ag n) none none none else .df (.relem sz o) [.cat c, i] .one none none none) else .no
    | none => .no
  | s => if b then .df (.elems sz o n) [s, i] (.ag n) none none none else .df (.elem sz o) [s, i] .one none none none
/-- what is appended to: the parts that it holds, and the row that is used up -/
def apOld (P : Program) (bs : List (Nat × Option Blk)) (e : TypeId) (sz : Nat) : V → Option (List V × Option Nat)
  | .k (.slice none 0 0) => some ([], none)
  | .row n => match rowOfN bs n with
    | some (c, e', sz') => if e' = e ∧ sz' = sz then some (c, some n) else none
    | none => none
  | _ => none
def planAp (C : Cx) (bs : List (Nat × Option Blk)) (nm m : Nat) (t : TypeId) (x y : V) : Pl := match slOf C.P t with
  | some e => match szOf C.P e, bytesOf C.P e, zeroOf C.P e with
    | some sz, some by', some z => match apOld C.P bs e sz x, rwOf C.P bs [t] [y] with
      | some (c, old), some [src] => if 0 < sz ∧ z.cells.size = sz ∧ by' ≤ 1000000 then .df (.app sz by' src) [.cat c, y] .any (some (.row nm)) (some ⟨c ++ [.x m []], e, .row sz⟩) (old.map fun n => (n, tomb)) else .no
      | _, _ => .no
    | _, _, _ => .no
  | none => .no
def planSl (C : Cx) (t : TypeId) (lo hi mx : Bool) (x : V) (bs : List V) : Pl := match x with
  | .p n o => match arrOf C.P t with
    | some (len, e) => match szOf C.P e, (kList bs).bind (optsV lo hi mx) with
      | some sz, some (l, h, m) => match boundsV len len l h m with
        | some (l, h, m) => .ef (.sl n (if m = l then o else o + l * sz) (h - l) (m - l)) none none
        | none => .no
      | _, _ => .no
    | none => .no
  | .sl n o len cap => match slOf C.P t with
    | some e => match szOf C.P e, (kList bs).bind (optsV lo hi mx) with
      | some sz, some (l, h, m) => match boundsV len cap l h m with
        | some (l, h, m) => .ef (.sl n (if m = l then o else o + l * sz) (h - l) (m - l)) none none
        | none => .no
      | _, _ => .no
    | none => .no
  | x => match lenT C.P t with
    | some true => .df (.slc true 1 lo hi mx) (x :: bs) .one none none none
    | some false => match (slOf C.P t).bind (szOf C.P) with
      | some sz => .df (.slc false sz lo hi mx) (x :: bs) .one none none none
      | none => .no
    | none => .no

def planV (C : Cx) (sh : List Sh) (nm : Nat) (op : Op) (vs : List V) (bs : List (Nat × Option Blk)) : Pl :=
  match op, vs with
  | .move _, [v] => .ef v none none
  | .assign _, [v] => .ef v none none
  | .pick _ _ _, [c, a, b] => match c with
    | .k (.bool true) => .ef a none none
    | .k (.bool false) => .ef b none none
    | .x i path => .br i path
    | _ => .no
  | .box t _, [v] => match v with
    | .a cs => .ef (.p nm 0) (some (mkB cs t)) none
    | v => if v.one sh then .ef (.p nm 0) (some (mkB [v] t)) none else .no
  | .alloc t, [] => match zeroOf C.P t with
    | some (.agg cs) => .ef (.p nm 0) (some (mkB (cs.toList.map .k) t)) none
    | some v => if v.oneCell' then .ef (.p nm 0) (some (mkB [.k v] t)) none else .no
    | none => .no
  | .load t _, [.p n o] => match blkOf bs n, rowOf C.P t, szOf C.P t with
    | some b, some true, some sz => if o + sz ≤ b.c.length then .ef (.a ((b.c.drop o).take sz)) none none else .no
    | some b, some false, _ => match b.c[o]? with
      | some v => .ef v none none
      | none => .no
    | _, _, _ => .no
  | .load t _, [.ep s i sz o] => match rowOf C.P t, szOf C.P t with
    | some b, some n => planLd bs b n s i sz o
    | _, _ => .no
  | .store t _ _, [.p n o, v] => match blkOf bs n, szOf C.P t with
    | some b, some sz => if v.cells.length = sz ∧ o + sz ≤ b.c.length ∧ vones sh v.cells = true ∧ 0 < sz then .ef (.k undef) none (some (n, ⟨spliceV b.c o v.cells, b.t, b.k⟩)) else .no
    | _, _ => .no
  | .nilCheck _, [.p n o] => .ef (.p n o) none none
  | .fieldAddr t _ f, [.p n o] => match fieldOff C.P t f with
    | some d => .ef (.p n (o + d)) none none
    | none => .no
  | .fieldAddr t _ f, [.ep s i sz o] => match fieldOff C.P t f with
    | some d => planEp bs s i sz (o + d)
    | none => .no
  | .field t _ f, [.a cs] => match fldOf C.P t f with
    | some (off, e) => match rowOf C.P e, szOf C.P e with
      | some true, some sz => if off + sz ≤ cs.length then .ef (.a ((cs.drop off).take sz)) none none else .no
      | some false, _ => match cs[off]? with
        | some v => .ef v none none
        | none => .no
      | _, _ => .no
    | none => .no
  | .indexAddr t _ _, [.p n o, .k (.int _ i)] => match arrOf C.P t with
    | some (len, e) => match szOf C.P e with
      | some sz => if 0 ≤ i ∧ i < len then .ef (.p n (o + i.toNat * sz)) none none else .no
      | none => .no
    | none => .no
  | .indexAddr t _ _, [.p _ _, .x i path] => match arrOf C.P t with
    | some (len, _) => .sp i path len
    | none => .no
  | .indexAddr t _ _, [.sl n o l _, .k (.int _ i)] => match slOf C.P t with
    | some e => match szOf C.P e with
      | some sz => if 0 ≤ i ∧ i < l then .ef (.p n (o + i.toNat * sz)) none none else .no
      | none => .no
    | none => .no
  | .indexAddr t _ _, [.sl _ _ l _, .x i path] => .sp i path l
  | .indexAddr t _ _, [.x s p, i] => match slOf C.P t with
    | some e => match szOf C.P e with
      | some sz => planEp bs (.x s p) i sz 0
      | none => .no
    | none => .no
  | .indexAddr t _ _, [.row n, i] => match slOf C.P t with
    | some e => match szOf C.P e with
      | some sz => planEp bs (.row n) i sz 0
      | none => .no
    | none => .no
  | .store t _ _, [.ep (.row n) i sz o, v] => match rowOfN bs n, szOf C.P t with
    | some (c, e, sz'), some k => if sz' = sz ∧ v.cells.length = k ∧ 0 < k ∧ vones sh v.cells = true then .df (.rset sz o) (.cat c :: i :: v.cells) .any (some (.k undef)) none (some (n, ⟨[.x sh.length []], e, .row sz⟩)) else .no
    | _, _ => .no
  | .index t _ _, [.a cs, .k (.int _ i)] => match arrOf C.P t with
    | some (len, e) => match rowOf C.P e, szOf C.P e with
      | some true, some sz => if 0 ≤ i ∧ i < len ∧ i.toNat * sz + sz ≤ cs.length then .ef (.a ((cs.drop (i.toNat * sz)).take sz)) none none else .no
      | some false, some 1 => if 0 ≤ i ∧ i < len then (match cs[i.toNat]? with
        | some v => .ef v none none
        | none => .no) else .no
      | _, _ => .no
    | none => .no
  | .index t _ _, [.a _, .x i path] => match arrOf C.P t with
    | some (len, _) => .sp i path len
    | none => .no
  | .extract _ j, [.t vs] => match vs[j]? with
    | some v => .ef v none none
    | none => .no
  | .binOp op t _ _ _, [x, y] => match x, y with
    | .a xs, .a ys => match kindsT C.P 20 t, rowOf C.P t, op with
      | some l, some true, .eql => if C.P.eqGuardType C.P.depth t = false ∧ xs.length = l.length ∧ ys.length = l.length then .df (.eqr false l.length l) (xs ++ ys) .one none none none else .no
      | some l, some true, .neq => if C.P.eqGuardType C.P.depth t = false ∧ xs.length = l.length ∧ ys.length = l.length then .df (.eqr true l.length l) (xs ++ ys) .one none none none else .no
      | _, _, _ => .no
    | x, y => sc2 (.bin op t) (binV op) x y
  | .unOp .not _ _, [x] => sc1 .not notV x
  | .unOp .neg _ _, [x] => sc1 .neg negV x
  | .convert src dst _, [x] => match C.P.underlying src, C.P.underlying dst with
    | some (.int _), some (.int k) => sc1 (.conv k) (convV k) x
    | _, _ => .no
  | .slice t _ lo hi mx, x :: bs => planSl C t lo.isSome hi.isSome mx.isSome x bs
  | .makeFunc fn first _, vs => .ef (.f fn (vs.take first.size) (vs.drop first.size)) none none
  | .build t parts, vs => match placeOf C.P t, zeroOf C.P t with
    | some pl, some (.agg z) => match fillV pl (z.toList.map .k) ((parts.toList.map (·.1)).zip vs) with
      | some cs => if parts.size = vs.length ∧ vs.all (fun v => v.isA || v.one sh) = true then .ef (.a cs) none none else .no
      | none => .no
    | _, _ => .no
  | .buildSlice t n parts, vs => match slOf C.P t with
    | some e => match szOf C.P e, zeroOf C.P e with
      | some sz, some _ => if n = 0 ∧ parts.size = 0 ∧ 0 < sz then .ef (.row nm) (some ⟨[], e, .row sz⟩) none else if parts.toList.map (·.1) = List.range n ∧ vs.length = n ∧ 0 < n * sz ∧ n * sz ≤ 16777216 ∧ vs.all (fun v => v.cells.length == sz && (v.isA || v.one sh)) = true then .ef (.sl nm 0 n n) (some (mkB (vs.flatMap V.cells) e)) none else .no
      | _, _ => .no
    | none => .no
  | .call c, vs => match c.callee, vs with
    | .builtin .append, [x, y] => match c.argTypes.toList with
      | [t, t'] => if t = t' then planAp C bs nm sh.length t x y else .no
      | _ => .no
    | .builtin .len, [.row n] => match (c.argTypes[0]?).bind (lenT C.P), rowOfN bs n with
      | some false, some (c, _, sz) => .df (.rlen sz) [.cat c] .one none none none
      | _, _ => .no
    | .builtin .len, [x] => match (c.argTypes[0]?).bind (lenT C.P) with
      | some str => (match str, x with
        | false, .sl _ _ l _ => .ef (.k (.int .i64 l)) none none
        | str, x => sc1 (.len str) (kLen str) x)
      | none => .no
    | .builtin .cap, [x] => match (c.argTypes[0]?).bind (lenT C.P) with
      | some false => (match x with
        | .sl _ _ _ l => .ef (.k (.int .i64 l)) none none
        | x => sc1 .cap kCap x)
      | _ => .no
    | .builtin .min, [x, y] => sc2 .min minV x y
    | .builtin .max, [x, y] => sc2 .max maxV x y
    | .value _, .f (.func g) [] cap :: args => match C.shp g, rwOf C.P bs c.argTypes.toList args, enters C.P g with
      | some sh, some rw, true => if cap.isEmpty = true then .df (.call g rw) args sh none none none else .no
      | _, _, _ => .no
    | _, _ => .no
  | _, _ => .no
/-- operations that look at no block, or ask for a row's length alone -/
def shapeOp : Op → Bool
  | .load _ _ => false
  | .store _ _ _ => false
  | .call c => match c.callee with
    | .builtin .len => true
    | _ => false
  | _ => true
/-- the blocks that an operation looks at -/
def S.see (s : S) (op : Op) (vs : List V) : List (Nat × Option Blk) := blks (if shapeOp op then s.ln else s.hp) vs
end SX
end Go.Proofs.Ytklppgkolcpbbaa
