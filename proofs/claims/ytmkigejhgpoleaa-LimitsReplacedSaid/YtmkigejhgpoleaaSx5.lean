/-
  A symbolic executor, fifth part: code.
-/
import Derived.Test.YtmkigejhgpoleaaSx4
import Derived.LoopN
namespace Go.Proofs.Ytmkigejhgpoleaa
set_option linter.unusedSimpArgs false
set_option linter.unusedVariables false
open Go Go.RowKit
namespace SX

inductive Tree where
  | df (q : Opq) (args : List V) (sh : Sh) (t : Tree)
  | br (i : Nat) (path : List Nat) (t e : Tree)
  | sp (i : Nat) (path : List Nat) (l : List Tree)
  | ret (v : V) (hp : List (Option Blk)) (stk : List (List (Option V)))
  | loop (vals : List V) (shs : List Sh) (t : Tree)
  | again (lvl : Nat) (vals : List V)
  | bad (why : Nat) (o : List Op)

/-- where a value stands that a loop hands on: a slot, a cell -/
inductive Pos where
  | s (d : Nat)
  | c (n k : Nat)
  deriving Inhabited, DecidableEq
/-- what is handed on: one cell; a struct; a slice that is only read; a row of one's own -/
inductive HK where
  | one
  | ag (n : Nat)
  | ext (sz : Nat)
  | row (sz : Nat) (e : TypeId)
  | any
  deriving Inhabited, DecidableEq
/-- a loop whose rounds are told by what holds: what changes -/
structure Ann where
  fn : FuncId
  reg : Nat
  pos : List (Pos × HK)

inductive It where
  | code (c : Code)
  | inBlock (id : Nat)
  | rounds (c : Code) (m : Nat)
  | ops (all : Array Oper) (rest : List Oper)
  | back (fn : Func) (cur : FuncId) (dst : Option Tmp) (all : Array Oper) (rest : List Oper)
  | again (lvl : Nat) (an : Ann) (ws : List Nat) (s : S)
  | top (fn : Func)
  | beginR
  | endR (cur : FuncId) (dst : Option Tmp) (all : Array Oper) (rest : List Oper)
  | endl (fn : Func) (cur : FuncId) (ps : Array Tmp) (assign body : Code)
  | jump (j : LS)

/-- what the executor may do: which functions it steps into, which loops it is told of, whether the blocks at a return are kept -/
structure Cfg where
  inl : FuncId → Bool
  anns : List Ann
  keep : Nat
  rounds : Nat

mutual
def V.eqb : V → V → Bool
  | .k (.int k i), .k (.int k' j) => k == k' && i == j
  | .k (.bool i), .k (.bool j) => i == j
  | .k (.string i), .k (.string j) => decide (i = j)
  | .k (.slice none a b), .k (.slice none c d) => a == c && b == d
  | .k (.pointer none), .k (.pointer none) => true
  | .k (.tuple a), .k (.tuple b) => a.isEmpty && b.isEmpty
  | .k .nilFunc, .k .nilFunc => true
  | .k .nilIface, .k .nilIface => true
  | .x i p, .x j q => i == j && p == q
  | .p n o, .p m q => n == m && o == q
  | .sl n o l c, .sl n' o' l' c' => n == n' && o == o' && l == l' && c == c'
  | .a l, .a m => eqbL l m
  | .t l, .t m => eqbL l m
  | .f fn a b, .f fn' a' b' => fn == fn' && eqbL a a' && eqbL b b'
  | .ep s i sz o, .ep s' i' sz' o' => s.eqb s' && i.eqb i' && sz == sz' && o == o'
  | .ifc t v, .ifc t' v' => t == t' && v.eqb v'
  | .row n, .row m => n == m
  | .cat l, .cat m => eqbL l m
  | .y n, .y m => n == m
  | .mapV n, .mapV m => n == m
  | .k (.map none), .k (.map none) => true
  | _, _ => false
def eqbL : List V → List V → Bool
  | [], [] => true
  | a :: l, b :: m => a.eqb b && eqbL l m
  | _, _ => false
end
mutual
theorem V.eqb_eq : ∀ (a b : V), a.eqb b = true → a = b := by
  intro a b h
  unfold V.eqb at h
  split at h <;> try simp only [Bool.and_eq_true, beq_iff_eq, decide_eq_true_eq, reduceCtorEq] at h
  case h_6 => 
    rename_i x y
    simp at h
    obtain ⟨rfl, rfl⟩ := h
    rfl
  case h_12 => rw [eqbL_eq _ _ h]
  case h_13 => rw [eqbL_eq _ _ h]
  case h_14 => obtain ⟨⟨rfl, h1⟩, h2⟩ := h; rw [eqbL_eq _ _ h1, eqbL_eq _ _ h2]
  case h_15 => obtain ⟨⟨⟨h1, h2⟩, rfl⟩, rfl⟩ := h; rw [V.eqb_eq _ _ h1, V.eqb_eq _ _ h2]
  case h_16 => obtain ⟨rfl, h1⟩ := h; rw [V.eqb_eq _ _ h1]
  case h_18 => rw [eqbL_eq _ _ h]
  all_goals first | rfl | (obtain ⟨⟨⟨rfl, rfl⟩, rfl⟩, rfl⟩ := h; rfl) | (obtain ⟨rfl, rfl⟩ := h; rfl) | (subst h; rfl)
theorem eqbL_eq : ∀ (l m : List V), eqbL l m = true → l = m
  | [], [], _ => rfl
  | a :: l, b :: m, h => by
    simp only [eqbL, Bool.and_eq_true] at h
    rw [V.eqb_eq a b h.1, eqbL_eq l m h.2]
  | [], _ :: _, h => by simp [eqbL] at h
  | _ :: _, [], h => by simp [eqbL] at h
end

def lookFr (s : S) (d : Nat) : Option V := lookV s.kn (s.fr[d]?).join
/-- the results of a function -/
def resOf1 (P : Program) (s : S) : ResultVar → Option V
  | .tmp t => lookFr s t
  | .cell p t => match lookFr s p with
    | some (.p n o) => match ((s.hp[n]?).join).bind cellsB, rowOf P t, szOf P t with
      | some b, some true, some sz => if o + sz ≤ b.c.length then some (.a ((b.c.drop o).take sz)) else none
      | some b, some false, _ => b.c[o]?
      | _, _, _ => none
    | _ => none
def resOf (P : Program) (s : S) (fn : Func) : Option V := match fn.results.toList.mapM (resOf1 P s) with
  | some [v] => some v
  | some vs => some (.t vs)
  | none => none

/-- what lies behind an exit -/
def unwindTo (id : Nat) : List It → Option (List It)
  | .inBlock id' :: k => if id = id' then some k else unwindTo id k
  | .code _ :: k => unwindTo id k
  | .rounds _ _ :: k => unwindTo id k
  | .again _ _ _ _ :: k => unwindTo id k
  | _ => none
/-- what lies behind a return -/
def retTo : List It → Option (List It)
  | .code _ :: k => retTo k
  | .inBlock _ :: k => retTo k
  | .rounds _ _ :: k => retTo k
  | .again _ _ _ _ :: k => retTo k
  | .back f c d a r :: k => some (.back f c d a r :: k)
  | .top f :: k => some (.top f :: k)
  | .endl f c ps a b :: k => some (.endl f c ps a b :: k)
  | _ => none

/-- the slots that code writes, and the first region in it -/
def written : Code → List Nat
  | .region _ ops _ => ops.toList.filterMap (·.dst)
  | .seq a b => written a ++ written b
  | .cond _ a b => written a ++ written b
  | .block _ c => written c
  | .loop c => written c
  | .scope c => written c
  | .rangeFunc _ ps a b => ps.toList ++ written a ++ written b
  | _ => []
def firstReg : Code → Option Nat
  | .region id _ _ => some id
  | .seq a b => (firstReg a).or (firstReg b)
  | .cond _ a b => (firstReg a).or (firstReg b)
  | .block _ c => firstReg c
  | .loop c => firstReg c
  | .scope c => firstReg c
  | _ => none

def eqbO : Option V → Option V → Bool
  | none, _ => true
  | some v, some u => v.eqb u
  | some _, none => false
/-- the frame is as the other one says -/
def eqbFr (skip : Nat → Bool) : Nat → List (Option V) → List (Option V) → Bool
  | _, [], [] => true
  | k, a :: l, b :: m => (skip k || eqbO a b) && eqbFr skip (k + 1) l m
  | _, _, _ => false
def eqbB (skip : Nat → Nat → Bool) (n : Nat) : Nat → List V → List V → Bool
  | _, [], [] => true
  | k, a :: l, b :: m => (skip n k || a.eqb b) && eqbB skip n (k + 1) l m
  | _, _, _ => false
def eqbH (dead : List Nat) (skip : Nat → Nat → Bool) : Nat → List (Option Blk) → List (Option Blk) → Bool
  | _, [], _ => true
  | n, none :: l, _ :: m => eqbH dead skip (n + 1) l m
  | n, some b :: l, some b' :: m => (dead.contains n || (b.t == b'.t && decide (b.k = b'.k) && eqbB skip n 0 b.c b'.c)) && eqbH dead skip (n + 1) l m
  | _, _, _ => false
def noSkip (_ _ : Nat) : Bool := false
def eqbS : List (List (Option V)) → List (List (Option V)) → Bool
  | [], [] => true
  | a :: l, b :: m => eqbFr (fun _ => false) 0 a b && eqbS l m
  | _, _ => false
def freeAt (s : S) (n : Nat) : Bool := match s.hp[n]?, s.ln[n]? with
  | some none, some none => true
  | _, _ => false
/-- a block whose parts may be handed on -/
def cmB (b : Blk) : Option Blk := match b.k with
  | .cells => some b
  | .mp _ _ => some b
  | _ => none
def Pos.get (s : S) : Pos → Option V
  | .s d => lookFr s d
  | .c n k => (((s.hp[n]?).join).bind cmB).bind fun b => b.c[k]?
def Pos.put (s : S) (v : V) : Pos → S
  | .s d => { s with fr := s.fr.set d (some v) }
  | .c n k => match ((s.hp[n]?).join).bind cmB with
    | some b => { s with hp := s.hp.set n (some ⟨b.c.set k v, b.t, b.k⟩) }
    | none => s
/-- the value that is handed on -/
def heldOf (s : S) : HK → V → Option V
  | .one, v => if v.one s.sh then some v else none
  | .ag n, .a cs => if cs.length = n ∧ vones s.sh cs = true then some (.a cs) else none
  | .ext sz, .row m => match (s.hp[m]?).join with
    | some b => if b.k = .ext sz then some (.cat b.c) else none
    | none => none
  | .row sz e, .row m => match (s.hp[m]?).join with
    | some b => if b.k = .row sz ∧ b.t = e then some (.cat b.c) else none
    | none => none
  | .any, .x i p => some (.x i p)
  | .any, .k v => some (.k v)
  | .any, .a cs => some (.a cs)
  | _, _ => none
def HK.sh : HK → Sh
  | .one => .one
  | .ag n => .ag n
  | _ => .any
def HK.isRow : HK → Bool
  | .row _ _ => true
  | _ => false
def HK.named : HK → Bool
  | .row _ _ => true
  | .ext _ => true
  | _ => false
/-- the symbol at the head -/
def HK.v (m base j : Nat) : HK → V
  | .one => Sh.exp (m + j) .one []
  | .ag n => Sh.exp (m + j) (.ag n) []
  | .any => Sh.exp (m + j) .any []
  | _ => .row (base + j)
def HK.blk (m j : Nat) : HK → Option Blk
  | .ext sz => some ⟨[.x (m + j) []], 0, .ext sz⟩
  | .row sz e => some ⟨[.x (m + j) []], e, .row sz⟩
  | _ => none
def nameOf : V → Option Nat
  | .row m => some m
  | _ => none
/-- the cells that it names are there -/
def Ann.on (an : Ann) (s : S) : Bool := an.pos.all fun e => match e.1 with
  | .c n k => (Pos.get s (.c n k)).isSome
  | .s _ => true
/-- the values that a loop hands on -/
def annVals (an : Ann) (s : S) : Option (List V) := an.pos.mapM fun e => (e.1.get s).bind (heldOf s e.2)
/-- the name that the thing number j bears -/
def annName (an : Ann) (s : S) (j : Nat) : Option Nat := (an.pos[j]?).bind fun e => if e.2.named then (e.1.get s).bind nameOf else none
def annRow (an : Ann) (j : Nat) : Bool := match an.pos[j]? with
  | some e => e.2.isRow
  | none => false
def annDead (an : Ann) (s : S) : List Nat := (List.range an.pos.length).filterMap fun j => if annRow an j then annName an s j else none
/-- where a position stands in the list -/
def posAt (an : Ann) (p : Pos) : Option Nat := an.pos.findIdx? fun e => decide (e.1 = p)
def posV (an : Ann) (m base : Nat) (p : Pos) : Option V := (posAt an p).bind fun j => (an.pos[j]?).map fun e => e.2.v m base j
/-- the slots that a loop writes are not known; those that it hands on are named anew -/
def freshFr (an : Ann) (ws : List Nat) (m base : Nat) (fr : List (Option V)) : List (Option V) :=
  fr.mapIdx fun d v => match posV an m base (.s d) with
    | some u => some u
    | none => if ws.contains d then none else v
def freshH (an : Ann) (m base : Nat) (dead : List Nat) (hp : List (Option Blk)) : List (Option Blk) :=
  hp.mapIdx fun n b => b.map fun b => if dead.contains n then tomb else ⟨b.c.mapIdx fun k v => match posV an m base (.c n k) with
    | some u => u
    | none => v, b.t, b.k⟩
def newB (an : Ann) (m : Nat) : List (Option Blk) := an.pos.mapIdx fun j e => e.2.blk m j
def freshS (an : Ann) (ws : List Nat) (s : S) : S :=
  { s with fr := freshFr an ws s.sh.length s.hp.length s.fr, hp := freshH an s.sh.length s.hp.length (annDead an s) s.hp ++ newB an s.sh.length, ln := s.ln ++ newB an s.sh.length, sh := s.sh ++ an.pos.map fun e => e.2.sh }
def skipS (an : Ann) (ws : List Nat) (d : Nat) : Bool := (posAt an (.s d)).isSome || ws.contains d
def skipC (an : Ann) (n k : Nat) : Bool := (posAt an (.c n k)).isSome
/-- the rows that are handed on are others than those that stay -/
def namesOk (an : Ann) (s0 s : S) : Bool := decide (s0.hp.length = s0.ln.length) && (List.range an.pos.length).all fun i => !annRow an i || (match annName an s i with
  | some n => (decide (s0.hp.length ≤ n) || (annDead an s0).contains n) && (List.range an.pos.length).all fun j => decide (i = j) || !annRow an j || !(annName an s j == some n)
  | none => false)
/-- what is handed on as a slice bears a name -/
def settle (s : S) : List (Pos × HK) → (S → Tree) → Tree
  | [], k => k s
  | (p, .ext sz) :: l, k => match p.get s with
    | some (.x i q) => if decide (0 < sz) && decide (i < s.sh.length) && freeAt (s.room 1) s.hp.length then .df (.kext sz) [.x i q] .any (settle (p.put (((s.room 1).ext .any).make s.hp.length ⟨[.x s.sh.length []], 0, .ext sz⟩) (.row s.hp.length)) l k) else .bad 51 []
    | some (.k (.slice none 0 c)) => if decide (0 < sz) && freeAt (s.room 1) s.hp.length then settle (p.put ((s.room 1).make s.hp.length ⟨[], 0, .ext sz⟩) (.row s.hp.length)) l k else .bad 52 []
    | _ => settle s l k
  | (p, .row sz e) :: l, k => match p.get s with
    | some (.k (.slice none 0 0)) => if decide (0 < sz) && freeAt (s.room 1) s.hp.length then settle (p.put ((s.room 1).make s.hp.length ⟨[], e, .row sz⟩) (.row s.hp.length)) l k else .bad 53 []
    | _ => settle s l k
  | (_, _) :: l, k => settle s l k

def isDraw : Code → Bool
  | .region _ _ true => true
  | _ => false

/-- why a loop's end does not fit its head -/
def againWhy (an : Ann) (ws : List Nat) (s0 s : S) (vals : List V) : Nat :=
  if !eqbFr (skipS an ws) 0 s0.fr s.fr then 601 else if !eqbS s0.stk s.stk then 602 else if !eqbH (annDead an s0) (skipC an) 0 s0.hp s.hp then 603 else if !eqbH [] noSkip 0 s0.ln s.ln then 604 else if !wfL s.ln s.sh.length vals then 605 else if !namesOk an s0 s then 606 else 607
mutual
/-- the block names within a value -/
def V.names : V → List Nat
  | .p n _ => [n]
  | .sl n _ _ _ => [n]
  | .row n => [n]
  | .y n => [n]
  | .mapV n => [n]
  | .cat cs => namesL cs
  | .a cs => namesL cs
  | .t cs => namesL cs
  | .f _ a b => namesL a ++ namesL b
  | .ep s i _ _ => s.names ++ i.names
  | .ifc _ v => v.names
  | _ => []
def namesL : List V → List Nat
  | [] => []
  | v :: l => v.names ++ namesL l
end
mutual
/-- a value of a function that was run on its own, in which one block is new: under another name -/
def V.ren (r m : Nat) : V → V
  | .p n o => .p (if n = r then m else n) o
  | .sl n o l c => .sl (if n = r then m else n) o l c
  | .a cs => .a (renL r m cs)
  | .t cs => .t (renL r m cs)
  | .f fn a b => .f fn (renL r m a) (renL r m b)
  | v => v
def renL (r m : Nat) : List V → List V
  | [] => []
  | v :: l => v.ren r m :: renL r m l
end
mutual
def V.renOk (old : List Nat) (r : Nat) : V → Bool
  | .k _ => true
  | .x _ _ => true
  | .p n _ => n == r || old.contains n
  | .sl n _ _ _ => n == r || old.contains n
  | .a cs => renOkL old r cs
  | .t cs => renOkL old r cs
  | .f _ a b => renOkL old r a && renOkL old r b
  | _ => false
def renOkL (old : List Nat) (r : Nat) : List V → Bool
  | [] => true
  | v :: l => v.renOk old r && renOkL old r l
end
mutual
theorem ren_den {ρ : List Value} {α α2 : Nat → AV} {old : List Nat} {r m : Nat} (h1 : (α2 m).b = (α r).b) (h2 : ∀ n ∈ old, (α2 n).b = (α n).b) : ∀ (v : V), v.renOk old r = true → (v.ren r m).den ρ α2 = v.den ρ α
  | .k v, _ => rfl
  | .x i p, _ => rfl
  | .p n o, h => by
    simp only [V.renOk, Bool.or_eq_true, beq_iff_eq, List.contains_iff_mem] at h
    simp only [V.ren, V.den]
    split
    · rename_i e; subst e; rw [h1]
    · rename_i e; rw [h2 n (h.resolve_left e)]
  | .sl n o l c, h => by
    simp only [V.renOk, Bool.or_eq_true, beq_iff_eq, List.contains_iff_mem] at h
    simp only [V.ren, V.den]
    split
    · rename_i e; subst e; rw [h1]
    · rename_i e; rw [h2 n (h.resolve_left e)]
  | .a cs, h => by simp only [V.ren, V.den, renL_den h1 h2 cs h]
  | .t cs, h => by simp only [V.ren, V.den, renL_den h1 h2 cs h]
  | .f fn a b, h => by
    simp only [V.renOk, Bool.and_eq_true] at h
    simp only [V.ren, V.den, renL_den h1 h2 a h.1, renL_den h1 h2 b h.2]
  | .ep _ _ _ _, h => by simp [V.renOk] at h
  | .ifc _ _, h => by simp [V.renOk] at h
  | .row _, h => by simp [V.renOk] at h
  | .cat _, h => by simp [V.renOk] at h
  | .y _, h => by simp [V.renOk] at h
  | .mapV _, h => by simp [V.renOk] at h
theorem renL_den {ρ : List Value} {α α2 : Nat → AV} {old : List Nat} {r m : Nat} (h1 : (α2 m).b = (α r).b) (h2 : ∀ n ∈ old, (α2 n).b = (α n).b) : ∀ (l : List V), renOkL old r l = true → denL ρ α2 (renL r m l) = denL ρ α l
  | [], _ => rfl
  | v :: l, h => by
    simp only [renOkL, Bool.and_eq_true] at h
    simp only [renL, denL, ren_den h1 h2 v h.1, renL_den h1 h2 l h.2]
end
/-- one operation of a region that draws its order: its value, what it lays, what it looks at -/
structure Done where
  v : V
  new : Option Blk
  wr : Option (Nat × Blk)
  slots : List Nat
  names : List Nat
  snames : List Nat
def tmpsOf : List Operand → List Nat
  | [] => []
  | .tmp t :: l => t :: tmpsOf l
  | _ :: l => tmpsOf l
def slotsOf (all : Array Oper) (o : Oper) : List Nat := tmpsOf o.op.operands.toList ++ (match o.guard with
  | some (g, _) => (((all[g]?).bind (·.dst))).toList
  | none => [])
def effNames (nm : Nat) (v : V) (new : Option Blk) (wr : Option (Nat × Blk)) : List Nat :=
  (v.names ++ (match new with | some b => namesL b.c | none => []) ++ (match wr with | some (n, b) => n :: namesL b.c | none => [])).filter (· != nm)
/-- the names that are laid -/
def wNames (nm : Nat) (d : Done) : List Nat := (match d.new with | some _ => [nm] | none => []) ++ (match d.wr with | some (n, _) => [n] | none => [])
def nNames (nm : Nat) (d : Done) : List Nat := match d.new with | some _ => [nm] | none => []
def meets (l m : List Nat) : Bool := l.any fun x => m.contains x
def conflict (base : Nat) (i j : Nat) (o : Oper) (d : Done) (o' : Oper) (d' : Done) : Bool :=
  meets o.dst.toList (d'.slots ++ o'.dst.toList) || meets o'.dst.toList d.slots || meets (wNames (base + i) d) (d'.names ++ wNames (base + j) d' ++ [base + j]) || meets (wNames (base + j) d') (d.names ++ [base + i]) || meets (nNames (base + i) d) (d'.snames ++ [base + j]) || meets (nNames (base + j) d') (d.snames ++ [base + i])
def preds (o : Oper) : List Nat := (o.after.toList.filter fun e => Region.binds .any e).map (·.on)
def once : List Nat → List Nat
  | [] => []
  | a :: l => if l.contains a then once l else a :: once l
theorem mem_once {x : Nat} : ∀ {l : List Nat}, x ∈ once l → x ∈ l
  | [], h => h
  | a :: l, h => by
    unfold once at h
    split at h
    · exact List.mem_cons_of_mem _ (mem_once h)
    · rcases List.mem_cons.1 h with rfl | h
      · exact List.mem_cons_self ..
      · exact List.mem_cons_of_mem _ (mem_once h)
def ancL : List Oper → List (List Nat) → List (List Nat)
  | [], acc => acc
  | o :: l, acc => ancL l (acc ++ [once (preds o ++ (preds o).flatMap fun p => acc.getD p [])])
def pairOk (base : Nat) (anc : List (List Nat)) (j : Nat) (o' : Oper) (d' : Done) : Nat → List (Oper × Done) → Bool
  | _, [] => true
  | i, (o, d) :: l => (!conflict base i j o d o' d' || (anc.getD j []).contains i) && pairOk base anc j o' d' (i + 1) l
def pairsOk (base : Nat) (anc : List (List Nat)) (pre : List (Oper × Done)) : List (Oper × Done) → Bool
  | [] => true
  | (o, d) :: l => pairOk base anc pre.length o d 0 pre && pairsOk base anc (pre ++ [(o, d)]) l
def backOk : Nat → List Oper → Bool
  | _, [] => true
  | i, o :: l => (preds o).all (fun p => decide (p < i)) && backOk (i + 1) l
def orderOk (base : Nat) (all : List Oper) (ds : List Done) : Bool := backOk 0 all && decide (all.length = ds.length) && pairsOk base (ancL all []) [] (all.zip ds)

/-- a move from slot to slot that nothing guards -/
def moveOf (o : Oper) : Option (Nat × Nat) := match o.guard, o.op, o.dst with
  | none, .move (.tmp x), some y => some (x, y)
  | _, _, _ => none
def plainOp : Op → Bool
  | .select _ _ => false
  | .defer _ => false
  | _ => true
/-- an operation does not touch a move's slots -/
def mvOk (all : List Oper) (i k : Nat) : Bool := match all[i]?, all[k]? with
  | some o, some o' => match moveOf o with
    | some (x, y) => !(o'.looksAt all.toArray).contains y && !o'.dst.toList.contains y && !o'.dst.toList.contains x && plainOp o'.op
    | none => false
  | _, _ => false
/-- the last operations wait for all others, but for one move that they do not touch -/
def tailOk (base : Nat) (all : List Oper) (ds : List Done) : Bool := backOk 0 all && decide (ds.length < all.length) && pairsOk base (ancL all []) [] (all.zip ds) && (List.range (all.length - ds.length)).all fun r => (List.range (ds.length + r)).all fun i => ((ancL all []).getD (ds.length + r) []).contains i || (((List.range ds.length).find? fun i => !((ancL all []).getD ds.length []).contains i) == some i && mvOk all i (ds.length + r))
def tlCall (l : List FuncId) : List V → Bool
  | .f (.func g) [] _ :: _ => l.contains g
  | _ => false
def Rw.wf (hp : List (Option Blk)) (m : Nat) : Rw → Bool
  | .own _ cs => wfL hp m cs
  | .row _ cs => wfL hp m cs
  | _ => true
def Opq.wf (hp : List (Option Blk)) (m : Nat) : Opq → Bool
  | .call _ rw => rw.all (Rw.wf hp m)
  | .callg _ rw grw => rw.all (Rw.wf hp m) && grw.all (Rw.wf hp m)
  | .callw _ rw caps => rw.all (Rw.wf hp m) && caps.all (wfL hp m)
  | .callp _ rw _ => rw.all (Rw.wf hp m)
  | .callr _ rw _ _ => rw.all (Rw.wf hp m)
  | .calln _ rw _ _ => rw.all (Rw.wf hp m)
  | .app _ _ src => src.wf hp m
  | .appx _ _ _ src => src.wf hp m
  | _ => true
def cNames (hp : List (Option Blk)) (op : Op) (vs : List V) : List Nat := if shapeOp op then [] else namesV (deepV hp op vs)
def shNames (op : Op) (vs : List V) : List Nat := if shapeOp op then namesV vs else []
/-- the blocks of these names alone -/
def keepH (nms : List Nat) (hp : List (Option Blk)) : List (Option Blk) := hp.mapIdx fun n b => if nms.contains n then b else none
/-- the blocks that are kept at a return: none; all; those that the result names -/
def keptH (k : Nat) (v : V) (hp : List (Option Blk)) : List (Option Blk) := match k with
  | 0 => []
  | 1 => hp
  | _ => keepH v.names hp
/-- the state at the door of a function that is run on its own -/
def inlS (s : S) (g : FuncId) (fn : Func) (args : List V) : S :=
  { fr := args.map some ++ List.replicate (fn.ntmps - args.length) (some (.k undef)), stk := [(namesL args).map (fun n => some (.p n 0)) ++ (namesL args).map (fun n => some (.row n))], hp := keepH (namesL args) s.hp, ln := keepH (namesL args) s.ln, sh := s.sh, kn := s.kn, lps := [], cur := g }
def wfO (hp : List (Option Blk)) (m : Nat) : Option V → Bool
  | none => true
  | some v => v.wf hp m
def wfS (s : S) : Bool := s.fr.all (wfO s.ln s.sh.length) && s.stk.all (fun f => f.all (wfO s.ln s.sh.length)) && (s.ln.all fun b => match b with | none => true | some b => wfL s.ln s.sh.length b.c) && ((List.range s.hp.length).all fun n => match s.hp[n]? with | some (some _) => lv s.ln n | _ => true) && s.hp.all fun b => match b with | none => true | some b => wfL s.ln s.sh.length b.c && decide (b.k = .cells)
/-- the one new block that a value names -/
def adoptOf (s : S) (v : V) (hp : List (Option Blk)) : Option (Nat × Blk) := (v.names.find? fun n => decide (s.hp.length ≤ n)).bind fun r => (((hp[r]?).join).bind cellsB).map fun b => (r, b)
/-- the plan of a region that draws its order -/
def planRun (C : Cx) (inl : FuncId → Bool) (sub : S → List It → Tree) (all : Array Oper) (base : Nat) (cont : S → Tree) (tail : S → List Oper → Tree) : Nat → S → List Done → List Oper → Tree
  | 0, _, _, _ => .bad 30 []
  | n + 1, s, ds, ops => match ops with
    | [] => if orderOk base all.toList ds then cont s else .bad 31 []
    | o :: rest =>
      let nm := base + ds.length
      let go : Tree := match o.op.operands.toList.mapM s.ev with
        | none => .bad 32 [o.op]
        | some vs => match planV C s.sh nm o.op vs (s.see o.op vs) with
          | .ef v new wr => if effWf s nm v new wr && freeAt s nm then planRun C inl sub all base cont tail n (s.eff nm o.dst v new wr) (ds ++ [⟨v, new, wr, slotsOf all o, cNames s.hp o.op vs, shNames o.op vs ++ effNames nm v new wr⟩]) rest else .bad 33 [o.op]
          | .df q args sh mk new wr => if wfL s.ln s.sh.length args && q.wf s.ln s.sh.length && effWf (s.ext sh) nm (resV s.sh.length sh mk) new wr && freeAt s nm then .df q args sh (planRun C inl sub all base cont tail n ((s.ext sh).eff nm o.dst (resV s.sh.length sh mk) new wr) (ds ++ [⟨resV s.sh.length sh mk, new, wr, slotsOf all o, cNames s.hp o.op vs, shNames o.op vs ++ effNames nm (resV s.sh.length sh mk) new wr⟩]) rest) else .bad 34 [o.op]
          | .br i p => if i < s.sh.length then .br i p (planRun C inl sub all base cont tail n (s.dec i p (.bool true)) ds ops) (planRun C inl sub all base cont tail n (s.dec i p (.bool false)) ds ops) else .bad 35 [o.op]
          | .sp i p m => if i < s.sh.length then .sp i p ((List.range m).map fun (j : Nat) => planRun C inl sub all base cont tail n (s.dec i p (.int .i64 (j : Int))) ds ops) else .bad 36 [o.op]
          | .no => if tlCall C.tl vs && tailOk base all.toList ds then tail s (o :: rest) else match o.op, vs with
            | .call c, .f (.func g) [] cap :: args => match c.callee, C.P.funcs[g]?, enters C.P g && inl g with
              | .value _, some fn, true => match fn.body with
                | some body => if (args ++ cap).length ≤ fn.ntmps && wfS (inlS s g fn (args ++ cap)) then
                    match sub (inlS s g fn (args ++ cap)) [.code body, .top fn] with
                    | .ret v hp' stk' => if eqbH [] noSkip 0 (inlS s g fn (args ++ cap)).hp hp' && eqbS (inlS s g fn (args ++ cap)).stk stk' && v.wf (inlS s g fn (args ++ cap)).ln s.sh.length then planRun C inl sub all base cont tail n (s.put o.dst v) (ds ++ [⟨v, none, none, slotsOf all o, namesL (args ++ cap), namesL (args ++ cap)⟩]) rest else match adoptOf (inlS s g fn (args ++ cap)) v hp' with
                      | some (r, b) => if eqbH [] noSkip 0 (inlS s g fn (args ++ cap)).hp hp' && eqbS (inlS s g fn (args ++ cap)).stk stk' && v.renOk (namesL (args ++ cap)) r && wfL (inlS s g fn (args ++ cap)).ln s.sh.length b.c && effWf s nm (v.ren r nm) (some b) none && freeAt s nm then planRun C inl sub all base cont tail n (s.eff nm o.dst (v.ren r nm) (some b) none) (ds ++ [⟨v.ren r nm, some b, none, slotsOf all o, namesL (args ++ cap), namesL (args ++ cap) ++ effNames nm (v.ren r nm) (some b) none⟩]) rest else .bad 47 [o.op]
                      | none => .bad 42 [o.op]
                    | t => match t with
                      | .bad n l => .bad (n + 100) l
                      | _ => .bad 43 [o.op]
                  else .bad 44 [o.op]
                | none => .bad 45 [o.op]
              | _, _, _ => .bad 37 [o.op]
            | _, _ => .bad 46 [o.op]
      match o.guard with
      | none => go
      | some (g, want) => match (all[g]?).bind (·.dst) with
        | none => .bad 38 [o.op]
        | some d => match lookFr s d with
          | some (.k (.tuple _)) => planRun C inl sub all base cont tail n (s.put o.dst (.k undef)) (ds ++ [⟨.k undef, none, none, slotsOf all o, [], []⟩]) rest
          | some (.k (.bool b)) => if b == want then go else planRun C inl sub all base cont tail n (s.put o.dst (.k undef)) (ds ++ [⟨.k undef, none, none, slotsOf all o, [], []⟩]) rest
          | some (.x i p) => if i < s.sh.length then .br i p (planRun C inl sub all base cont tail n (s.dec i p (.bool true)) ds ops) (planRun C inl sub all base cont tail n (s.dec i p (.bool false)) ds ops) else .bad 39 [o.op]
          | _ => .bad 40 [o.op]
/-- no way out stands here -/
def noJmp : List It → Bool
  | .code _ :: k => noJmp k
  | .inBlock _ :: k => noJmp k
  | .rounds _ _ :: k => noJmp k
  | .again _ _ _ _ :: k => noJmp k
  | .ops _ _ :: k => noJmp k
  | .jump _ :: _ => false
  | _ => true
/-- out of a round -/
def leaveR : List It → Option (List It)
  | .code _ :: k => leaveR k
  | .inBlock _ :: k => leaveR k
  | .rounds _ _ :: k => leaveR k
  | .again _ _ _ _ :: k => leaveR k
  | .endR a b c d :: k => some (.endR a b c d :: k)
  | _ => none
/-- a frame that is no round -/
def plainK : List It → Bool
  | .code _ :: k => plainK k
  | .inBlock _ :: k => plainK k
  | .rounds _ _ :: k => plainK k
  | .again _ _ _ _ :: k => plainK k
  | .back _ _ _ _ _ :: _ => true
  | .top _ :: _ => true
  | .endl _ _ _ _ _ :: _ => true
  | _ => false
/-- the loop that an iterator's frame serves -/
def endlOf : List It → Option (FuncId × Array Tmp × Code × Code)
  | .code _ :: k => endlOf k
  | .inBlock _ :: k => endlOf k
  | .rounds _ _ :: k => endlOf k
  | .again _ _ _ _ :: k => endlOf k
  | .endl _ cur ps a b :: _ => some (cur, ps, a, b)
  | _ => none
/-- a slice of one's own that a call's result may share: it is written no more -/
def frzV (C : Cx) (s : S) (keep : Nat) (op : Op) (vs : List V) : Option Nat := if keep = 12 then (match op, vs with
  | .call c, .f (.func g) [] _ :: args => match c.callee with
    | .value _ => ((C.ali g).filterMap fun (j : Nat) => match args[j]? with
      | some (V.sl n _ _ _) => match (s.hp[n]?).join with
        | some b => if b.k = .cells then some n else none
        | none => none
      | _ => none)[0]?
    | _ => none
  | _, _ => none) else none
/-- the frame of a round -/
def roundF (fr : List (Option V)) (ps : Array Tmp) (args : List V) : List (Option V) := (ps.toList.zip args).foldl (fun f e => f.set e.1 (some e.2)) fr
/-- where the last name stands that is given -/
def lastSome : Nat → Nat → List (Option Blk) → Nat
  | _, r, [] => r
  | i, r, none :: l => lastSome (i + 1) r l
  | i, _, some _ :: l => lastSome (i + 1) (i + 1) l
/-- the names behind are dropped -/
def S.trim (s : S) (b : Bool) (base : Nat) : S := match b with
  | false => s
  | true => match max base (max (lastSome 0 0 s.hp) (lastSome 0 0 s.ln)) with
    | k => if (s.hp.drop k).all Option.isNone && (s.ln.drop k).all Option.isNone then { s with hp := s.hp.take k, ln := s.ln.take k } else s
/-- a side that is not followed -/
def cutT (C : Cx) (s : S) (i : Nat) (b : Bool) (t : Tree) : Tree := match C.cut.any fun e => e.1 == i && e.2.1 == s.kn.length && e.2.2 == b with
  | true => .bad 70 []
  | false => t
/-- the run of a state -/
def run (C : Cx) (G : Cfg) : Nat → Nat → S → List It → Tree
  | 0, _, _, _ => .bad 0 []
  | n + 1, lv, s, items => match items with
    | [] => .bad 1 []
    | .top fn :: _ => match resOf C.P s fn with
      | some v => if v.wf s.ln s.sh.length then .ret v (keptH G.keep v s.hp) s.stk else .bad 2 []
      | none => .bad 3 []
    | .back fn cur dst all rest :: k => match resOf C.P s fn, s.stk with
      | some v, fr :: stk => if v.wf s.ln s.sh.length then run C G n lv (({ s with fr := fr, stk := stk, cur := cur } : S).put dst v) (.ops all rest :: k) else .bad 4 []
      | _, _ => .bad 5 []
    | .again l an ws s0 :: _ => settle s an.pos fun s => match annVals an s with
      | some vals => if eqbFr (skipS an ws) 0 s0.fr s.fr && eqbS s0.stk s.stk && eqbH (annDead an s0) (skipC an) 0 s0.hp s.hp && eqbH [] noSkip 0 s0.ln s.ln && wfL s.ln s.sh.length vals && namesOk an s0 s && s0.cur == s.cur && decide (s0.lps = s.lps) then .again l vals else .bad (againWhy an ws s0 s vals) []
      | none => .bad 7 []
    | .beginR :: k => match s.lps with
      | (m, .ready) :: r => run C G n lv { s with lps := (m, .busy) :: r } k
      | _ => .bad 54 []
    | .endR cur dst all rest :: k => match s.lps, s.stk with
      | (m, .busy) :: r, fr :: stk => run C G n lv (({ s with fr := fr, stk := stk, lps := (m, .ready) :: r, cur := cur } : S).put dst (.k (.bool true))) (.ops all rest :: k)
      | _, _ => .bad 55 []
    | .jump j :: .endR cur dst all rest :: k => match s.lps, s.stk with
      | (m, .busy) :: r, fr :: stk => if j.pe.isSome then run C G n lv (({ s with fr := fr, stk := stk, lps := (m, j) :: r, cur := cur } : S).put dst (.k (.bool false))) (.ops all rest :: k) else .bad 56 []
      | _, _ => .bad 57 []
    | .jump _ :: _ => .bad 58 []
    | .endl fn cur _ _ _ :: k => match resOf C.P s fn, s.lps, s.stk with
      | some v, (_, q) :: r, fr :: stk => if q = .busy then .bad 59 [] else match q.pe with
        | none => run C G n lv { s with fr := fr, stk := stk, lps := r, cur := cur } k
        | some c => run C G n lv { s with fr := fr, stk := stk, lps := r, cur := cur } (.code c :: k)
      | _, _, _ => .bad 60 []
    | .inBlock _ :: k => run C G n lv s k
    | .rounds c m :: k => match m with
      | 0 => .bad 8 []
      | m + 1 => run C G n lv s (.code c :: .rounds c m :: k)
    | .code c :: k => match c with
      | .skip => run C G n lv s k
      | .label _ => run C G n lv s k
      | .seq a b => run C G n lv s (.code a :: .code b :: k)
      | .block id c => run C G n lv s (.code c :: .inBlock id :: k)
      | .cond x a b => match s.ev x with
        | some (.k (.bool true)) => run C G n lv s (.code a :: k)
        | some (.k (.bool false)) => run C G n lv s (.code b :: k)
        | some (.x i p) => if i < s.sh.length then .br i p (cutT C s i true (run C G n lv (s.dec i p (.bool true)) (.code a :: k))) (cutT C s i false (run C G n lv (s.dec i p (.bool false)) (.code b :: k))) else .bad 9 []
        | _ => .bad 10 []
      | .exit id => match unwindTo id k with
        | some k' => run C G n lv s k'
        | none => match leaveR k with
          | some k' => run C G n lv s (.jump (.exit id) :: k')
          | none => .bad 11 []
      | .ret => match retTo k with
        | some k' => run C G n lv s k'
        | none => match leaveR k with
          | some k' => run C G n lv s (.jump .ret :: k')
          | none => .bad 12 []
      | .rangeFunc g ps assign body => match s.ev g, plainK k with
        | some (.f (.func gf) [] cap), true => match C.P.funcs[gf]?, enters C.P gf && G.inl gf with
          | some fn, true => match fn.body with
            | some c => if 1 + cap.length ≤ fn.ntmps && wfL s.ln s.sh.length cap && freeAt (s.room 1) s.hp.length then
                run C G n lv { (s.room 1).make s.hp.length tomb with fr := (.y s.hp.length :: cap).map some ++ List.replicate (fn.ntmps - (.y s.hp.length :: cap : List V).length) (some (.k undef)), stk := s.fr :: s.stk, lps := (s.hp.length, .ready) :: s.lps, cur := gf } (.code c :: .endl fn s.cur ps assign body :: k) else .bad 50 []
            | none => .bad 51 []
          | _, _ => .bad 52 []
        | _, _ => .bad 53 []
      | .loop c => match G.anns.find? (fun an => an.fn == s.cur && some an.reg == firstReg c && an.on s) with
        | none => run C G n lv s (.rounds c G.rounds :: k)
        | some an => settle s an.pos fun s => match annVals an s with
          | some vals => if wfL s.ln s.sh.length vals && namesOk an s s then .loop vals (an.pos.map fun e => e.2.sh) (run C G n (lv + 1) (freshS an (written c) s) (.code c :: .again lv an (written c) s :: k)) else .bad 13 []
          | none => .bad 14 []
      | .region _ ops false => run C G n lv s (.ops ops ops.toList :: k)
      | .region _ ops true => if C.P.follows .mixedOrders then planRun C G.inl (fun s' it => run C { G with keep := 1 } n 0 s' it) ops s.hp.length (fun s' => run C G n lv (s'.trim C.trm s.hp.length) k) (fun s' l => if noJmp k then run C G n lv (s'.trim C.trm s.hp.length) (.ops ops l :: k) else .bad 71 []) (4 * ops.size + 20) (s.room ops.size) [] ops.toList else .bad 41 []
      | _ => .bad 15 []
    | .ops _ [] :: k => run C G n lv s k
    | .ops all (o :: rest) :: k =>
      let go : Tree := match o.op.operands.toList.mapM s.ev with
        | none => .bad 16 [o.op]
        | some vs => match planV C s.sh s.hp.length o.op vs (s.see o.op vs) with
          | .ef v none wr => if effWf s s.hp.length v none wr then run C G n lv (s.eff s.hp.length o.dst v none wr) (.ops all rest :: k) else .bad 17 [o.op]
          | .ef v (some b) wr => if effWf (s.room 1) s.hp.length v (some b) wr && freeAt (s.room 1) s.hp.length then run C G n lv ((s.room 1).eff s.hp.length o.dst v (some b) wr) (.ops all rest :: k) else .bad 18 [o.op]
          | .df q args sh mk none wr => if wfL s.ln s.sh.length args && q.wf s.ln s.sh.length && effWf (s.ext sh) s.hp.length (resV s.sh.length sh mk) none wr then .df q args sh (run C G n lv ((s.ext sh).eff s.hp.length o.dst (resV s.sh.length sh mk) none wr) (.ops all rest :: k)) else .bad 20 [o.op]
          | .df q args sh mk (some b) wr => if wfL s.ln s.sh.length args && q.wf s.ln s.sh.length && effWf ((s.room 1).ext sh) s.hp.length (resV s.sh.length sh mk) (some b) wr && freeAt (s.room 1) s.hp.length then .df q args sh (run C G n lv (((s.room 1).ext sh).eff s.hp.length o.dst (resV s.sh.length sh mk) (some b) wr) (.ops all rest :: k)) else .bad 19 [o.op]
          | .br i p => if i < s.sh.length then .br i p (run C G n lv (s.dec i p (.bool true)) items) (run C G n lv (s.dec i p (.bool false)) items) else .bad 21 [o.op]
          | .sp i p m => if i < s.sh.length then .sp i p ((List.range m).map fun (j : Nat) => run C G n lv (s.dec i p (.int .i64 (j : Int))) items) else .bad 22 [o.op]
          | .no => match frzV C s G.keep o.op vs with
            | some n0 => run C G n lv (s.freeze n0) items
            | none => match o.op, vs with
            | .call c, .f (.func g) fs cap :: args => match c.callee, C.P.funcs[g]?, enters C.P g && G.inl g with
              | .value _, some fn, true => match fn.body with
                | some body => if (fs ++ (args ++ cap)).length ≤ fn.ntmps && wfL s.ln s.sh.length (fs ++ (args ++ cap)) then
                    run C G n lv { s with fr := (fs ++ (args ++ cap)).map some ++ List.replicate (fn.ntmps - (fs ++ (args ++ cap)).length) (some (.k undef)), stk := s.fr :: s.stk, cur := g } (.code body :: .back fn s.cur o.dst all rest :: k) else .bad 23 [o.op]
                | none => .bad 24 [o.op]
              | _, _, _ => .bad 25 [o.op]
            | .call c, .y m :: args => match c.callee, s.lps, s.stk, endlOf k with
              | .value _, (m', .ready) :: _, fr :: _, some (cur, ps, assign, body) => if m = m' ∧ args.length = ps.size ∧ wfL s.ln s.sh.length args = true then
                  run C G n lv { s with fr := roundF fr ps args, stk := s.fr :: s.stk, cur := cur } (.code assign :: .beginR :: .code body :: .endR s.cur o.dst all rest :: k) else .bad 61 [o.op]
              | _, _, _, _ => .bad 62 [o.op]
            | _, _ => .bad 26 [o.op]
      match o.guard with
      | none => go
      | some (g, want) => match (all[g]?).bind (·.dst) with
        | none => .bad 27 [o.op]
        | some d => match lookFr s d with
          | some (.k (.tuple _)) => run C G n lv (s.put o.dst (.k undef)) (.ops all rest :: k)
          | some (.k (.bool b)) => if b == want then go else run C G n lv (s.put o.dst (.k undef)) (.ops all rest :: k)
          | some (.x i p) => if i < s.sh.length then .br i p (cutT C s i true (run C G n lv (s.dec i p (.bool true)) items)) (cutT C s i false (run C G n lv (s.dec i p (.bool false)) items)) else .bad 28 [o.op]
          | _ => .bad 29 [o.op]
/-- the state at a function's door -/
def door (f : FuncId) (fn : Func) (args : List V) (sh : List Sh) : S :=
  { fr := args.map some ++ List.replicate (fn.ntmps - args.length) (some (.k undef)), stk := [], hp := [], ln := [], sh := sh, kn := [], lps := [], cur := f }
def doorOk (fn : Func) (args : List V) (sh : List Sh) : Bool := decide (args.length ≤ fn.ntmps) && wfL [] sh.length args

end SX
end Go.Proofs.Ytmkigejhgpoleaa
