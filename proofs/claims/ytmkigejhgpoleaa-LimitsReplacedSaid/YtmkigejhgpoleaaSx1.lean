/-
  A symbolic executor, first part: symbolic values, states, and what they stand for.
-/
import Derived.Test.YtmkigejhgpoleaaMp
import Derived.Test.YtmkigejhgpoleaaRec
namespace Go.Proofs.Ytmkigejhgpoleaa
set_option linter.unusedSimpArgs false
set_option linter.unusedVariables false
open Go Go.RowKit
namespace SX

/-- where a name lies: a block's number; for a row of unknown length the slice, and what is behind its length -/
structure AV where
  b : Nat
  h : Value
  tl : List Value
  deriving Inhabited
/-- a symbolic value -/
inductive V where
  | k (v : Value)
  | x (i : Nat) (path : List Nat)
  | p (n o : Nat)
  | sl (n o l c : Nat)
  | a (cs : List V)
  | t (vs : List V)
  | f (fn : Fn) (first cap : List V)
  | ep (s i : V) (sz o : Nat)
  | ifc (t : TypeId) (v : V)
  | row (n : Nat)
  | cat (cs : List V)
  | y (n : Nat)
  | mapV (n : Nat)
  deriving Inhabited

/-- the cells of a value -/
def cellsV : Value → List Value
  | .agg cs => cs.toList
  | _ => []
/-- a part of a value -/
def comp (v : Value) (j : Nat) : Value := match v with
  | .tuple vs => vs.toList.getD j undef
  | .agg cs => cs.toList.getD j undef
  | _ => undef
def epv (s i : Value) (sz o : Nat) : Value := match s, i with
  | .slice (some ad) _ _, .int _ n => .pointer (some (ad.add (n.toNat * sz + o)))
  | _, _ => .pointer none

mutual
def V.den (ρ : List Value) (α : Nat → AV) : V → Value
  | .k v => v
  | .x i path => path.foldl comp (ρ.getD i undef)
  | .p n o => .pointer (some ⟨(α n).b, o, none⟩)
  | .sl n o l c => .slice (some ⟨(α n).b, o, none⟩) l c
  | .a cs => .agg (denL ρ α cs).toArray
  | .t vs => .tuple (denL ρ α vs).toArray
  | .f fn first cap => .func fn (denL ρ α first).toArray (denL ρ α cap).toArray
  | .ep s i sz o => epv (s.den ρ α) (i.den ρ α) sz o
  | .ifc t v => .iface t (v.den ρ α)
  | .row n => (α n).h
  | .cat cs => .agg ((denL ρ α cs).flatMap cellsV).toArray
  | .y n => .func (.yield (α n).b) #[] #[]
  | .mapV n => .map (some (α n).b)
def denL (ρ : List Value) (α : Nat → AV) : List V → List Value
  | [] => []
  | v :: l => v.den ρ α :: denL ρ α l
end
theorem denL_map (ρ : List Value) (α : Nat → AV) : ∀ l : List V, denL ρ α l = l.map (V.den ρ α)
  | [] => by simp [denL]
  | v :: l => by simp [denL, denL_map ρ α l]

/-- the shape of a value that is not known -/
inductive Sh where
  | one
  | ag (n : Nat)
  | tp (l : List Sh)
  | any
  | sl (sz : Nat)
  | agl (l : List Sh)
  deriving Inhabited
mutual
def Sh.fit : Sh → Value → Bool
  | .one, v => v.oneCell'
  | .ag n, .agg cs => cs.toList.length == n && cs.toList.all (·.oneCell')
  | .tp l, .tuple vs => Sh.fitL l vs.toList
  | .any, _ => true
  | .sl sz, .agg cs => decide (0 < sz) && cs.toList.length % sz == 0 && cs.toList.all (·.oneCell')
  | .agl l, .agg cs => Sh.fitL l cs.toList
  | _, _ => false
def Sh.fitL : List Sh → List Value → Bool
  | [], [] => true
  | s :: l, v :: r => s.fit v && Sh.fitL l r
  | _, _ => false
end
def Sh.leaf : Sh → List Nat → Bool
  | .one, [] => true
  | .ag n, [j] => decide (j < n)
  | .tp l, j :: r => match l[j]? with
    | some s => Sh.leaf s r
    | none => false
  | .agl l, j :: r => match l[j]? with
    | some s => Sh.leaf s r
    | none => false
  | _, _ => false

theorem fitL_at : ∀ {l : List Sh} {r : List Value} {j : Nat} {s : Sh}, Sh.fitL l r = true → l[j]? = some s → ∃ v, r[j]? = some v ∧ s.fit v = true
  | [], _, j, s, _, h => by simp at h
  | _ :: _, [], _, _, h, _ => by simp [Sh.fitL] at h
  | s' :: l, v :: r, 0, s, h, hs => by
    simp only [Sh.fitL, Bool.and_eq_true] at h
    obtain rfl : s' = s := by simpa using hs
    exact ⟨v, rfl, h.1⟩
  | s' :: l, v :: r, j + 1, s, h, hs => by
    simp only [Sh.fitL, Bool.and_eq_true] at h
    obtain ⟨u, h1, h2⟩ := fitL_at (j := j) h.2 (by simpa using hs)
    exact ⟨u, by simpa using h1, h2⟩
theorem leaf_one : ∀ (path : List Nat) (s : Sh) (v : Value), s.leaf path = true → s.fit v = true → (path.foldl comp v).oneCell' = true
  | [], s, v, h, hf => by
    cases s <;> simp [Sh.leaf] at h
    simpa [Sh.fit] using hf
  | j :: r, s, v, h, hf => by
    cases s with
    | one => simp [Sh.leaf] at h
    | ag n =>
      cases r with
      | nil =>
        simp only [Sh.leaf, decide_eq_true_eq] at h
        cases v <;> simp [Sh.fit] at hf
        rename_i cs
        obtain ⟨h1, h2⟩ := hf
        have hj : j < cs.size := by omega
        simp [comp, hj]
        exact h2 j hj
      | cons _ _ => simp [Sh.leaf] at h
    | any => simp [Sh.leaf] at h
    | sl n => simp [Sh.leaf] at h
    | agl l =>
      unfold Sh.leaf at h
      cases hs : l[j]? with
      | none => simp [hs] at h
      | some s' =>
        rw [hs] at h
        cases v <;> simp [Sh.fit] at hf
        rename_i vs
        obtain ⟨u, hu, hfu⟩ := fitL_at hf hs
        have : comp (.agg vs) j = u := by simp only [comp, List.getD_eq_getElem?_getD, hu, Option.getD_some]
        rw [List.foldl_cons, this]
        exact leaf_one r s' u h hfu
    | tp l =>
      unfold Sh.leaf at h
      cases hs : l[j]? with
      | none => simp [hs] at h
      | some s' =>
        rw [hs] at h
        cases v <;> simp [Sh.fit] at hf
        rename_i vs
        obtain ⟨u, hu, hfu⟩ := fitL_at hf hs
        have : comp (.tuple vs) j = u := by simp only [comp, List.getD_eq_getElem?_getD, hu, Option.getD_some]
        rw [List.foldl_cons, this]
        exact leaf_one r s' u h hfu

/-- an argument of a call: the value, and for a slice its elements' cells -/
structure Arg where
  v : Value
  sz : Nat
  cells : List Value
def Arg.rd (W : World) (x : Arg) : Prop := match x.v with
  | .slice A n c => Rd W x.sz A n x.cells ∧ n ≤ c
  | _ => x.sz = 0
/-- what is known of a block: its cells; a row of unknown length; a slice that is only read; nothing any more -/
inductive BK where
  | cells
  | row (sz : Nat)
  | ext (sz : Nat)
  | dead
  | froz
  | mp (k : Nat) (ag : Bool)
  deriving Inhabited, DecidableEq
/-- a block of the call's own -/
structure Blk where
  c : List V
  t : TypeId
  k : BK
  deriving Inhabited
abbrev mkB (c : List V) (t : TypeId) : Blk := ⟨c, t, .cells⟩
def tomb : Blk := ⟨[], 0, .dead⟩
/-- where a loop stands -/
inductive LS where
  | ready
  | busy
  | ret
  | exit (id : Nat)
  deriving Inhabited, DecidableEq
/-- a state: the frame (what is not named is not known), the suspended frames, the blocks by name, what each name was when it was made, the shapes of what is not known, what has been decided -/
structure S where
  fr : List (Option V)
  stk : List (List (Option V))
  hp : List (Option Blk)
  ln : List (Option Blk)
  sh : List Sh
  kn : List (Nat × List Nat × Value)
  lps : List (Nat × LS)
  cur : FuncId
  deriving Inhabited

def Blk.xs (ρ : List Value) (α : Nat → AV) (b : Blk) : List Value := (denL ρ α b.c).flatMap cellsV
def Blk.ch (ρ : List Value) (α : Nat → AV) (n : Nat) (b : Blk) : Option Ch := match b.k with
  | .cells => some ⟨(α n).b, (denL ρ α b.c).toArray, b.t⟩
  | .row _ => match (α n).h with
    | .slice (some _) _ _ => some ⟨(α n).b, (b.xs ρ α ++ (α n).tl).toArray, b.t⟩
    | _ => none
  | .ext _ => none
  | .dead => none
  | .froz => none
  | .mp k ag => some ⟨(α n).b, (b.xs ρ α).toArray, .map k ag⟩
def chs (ρ : List Value) (α : Nat → AV) : Nat → List (Option Blk) → List Ch
  | _, [] => []
  | n, none :: l => chs ρ α (n + 1) l
  | n, some b :: l => (b.ch ρ α n).toList ++ chs ρ α (n + 1) l
/-- a slice that the call has made, or was handed -/
def Frs (w0 : Org) (h : Value) : Prop := ∀ ad n c, h = .slice (some ad) n c → 0 < n → w0.w.heap.size ≤ ad.block
/-- what is known of a slice that is only read -/
def FrsB (B : Nat) (h : Value) : Prop := ∀ ad n c, h = .slice (some ad) n c → 0 < n → B ≤ ad.block
def exFact (w0 : Org) (x : Arg) (W : World) : Prop := x.rd W ∧ (Frs w0 x.v ∨ ((∀ W2, w0.rt W2 → x.rd W2) ∧ ∀ B, w0.rf B → FrsB B x.v))
def Blk.ex (w0 : Org) (ρ : List Value) (α : Nat → AV) (n : Nat) (b : Blk) : Option (World → Prop) := match b.k with
  | .ext sz => some (exFact w0 ⟨(α n).h, sz, b.xs ρ α⟩)
  | .froz => some (fun W => W.heap[(α n).b]? = some (.cells (denL ρ α b.c).toArray b.t (0, 0)) ∧ w0.w.heap.size ≤ (α n).b)
  | _ => none
def exs (w0 : Org) (ρ : List Value) (α : Nat → AV) : Nat → List (Option Blk) → List (World → Prop)
  | _, [] => []
  | n, none :: l => exs w0 ρ α (n + 1) l
  | n, some b :: l => (b.ex w0 ρ α n).toList ++ exs w0 ρ α (n + 1) l
def Blk.own (b : Blk) : Bool := match b.k with
  | .ext _ => false
  | .froz => false
  | _ => true
theorem Blk.own_ex {w0 : Org} {ρ : List Value} {α : Nat → AV} {n : Nat} {b : Blk} (h : b.own = true) : b.ex w0 ρ α n = none := by
  unfold Blk.own at h
  unfold Blk.ex
  cases hk : b.k <;> simp [hk] at h ⊢
theorem exs_mem {w0 : Org} {ρ : List Value} {α : Nat → AV} {p : World → Prop} : ∀ {hp : List (Option Blk)} {k : Nat}, p ∈ exs w0 ρ α k hp ↔ ∃ (n : Nat) (b : Blk), hp[n]? = some (some b) ∧ b.ex w0 ρ α (k + n) = some p
  | [], k => by simp [exs]
  | none :: l, k => by
    unfold exs
    rw [exs_mem]
    constructor
    · rintro ⟨n, b, h1, h2⟩
      exact ⟨n + 1, b, by simpa using h1, by rwa [show k + (n + 1) = k + 1 + n by omega]⟩
    · rintro ⟨n, b, h1, h2⟩
      cases n with
      | zero => simp at h1
      | succ n => exact ⟨n, b, by simpa using h1, by rwa [show k + 1 + n = k + (n + 1) by omega]⟩
  | some b :: l, k => by
    unfold exs
    rw [List.mem_append, exs_mem]
    constructor
    · rintro (h | ⟨n, b, h1, h2⟩)
      · exact ⟨0, b, rfl, by simpa [Option.mem_toList] using h⟩
      · exact ⟨n + 1, b, by simpa using h1, by rwa [show k + (n + 1) = k + 1 + n by omega]⟩
    · rintro ⟨n, b', h1, h2⟩
      cases n with
      | zero =>
        obtain rfl : b = b' := by simpa using h1
        exact .inl (by simpa [Option.mem_toList] using h2)
      | succ n => exact .inr ⟨n, b', by simpa using h1, by rwa [show k + 1 + n = k + (n + 1) by omega]⟩
/-- what is said of the slices that are only read stays said -/
theorem exs_sub {w0 : Org} {ρ ρ' : List Value} {α α' : Nat → AV} {hp hp' : List (Option Blk)} (h : ∀ (n : Nat) (b : Blk), hp'[n]? = some (some b) → b.own = true ∨ ∃ b', hp[n]? = some (some b') ∧ b.ex w0 ρ' α' n = b'.ex w0 ρ α n) : ∀ p ∈ exs w0 ρ' α' 0 hp', p ∈ exs w0 ρ α 0 hp := by
  intro p hpm
  obtain ⟨n, b, h1, h2⟩ := exs_mem.1 hpm
  rw [Nat.zero_add] at h2
  rcases h n b h1 with h3 | ⟨b', h3, h4⟩
  · rw [Blk.own_ex h3] at h2; cases h2
  · exact exs_mem.2 ⟨n, b', h3, by rw [Nat.zero_add, ← h4]; exact h2⟩
theorem app_sub {w0 : Org} {ρ ρ' : List Value} {α α' : Nat → AV} {hp hp' : List (Option Blk)} {ps : List (World → Prop)} (h : ∀ p ∈ exs w0 ρ' α' 0 hp', p ∈ exs w0 ρ α 0 hp) : ∀ p ∈ exs w0 ρ' α' 0 hp' ++ ps, p ∈ exs w0 ρ α 0 hp ++ ps := fun p hm => by
  rcases List.mem_append.1 hm with hm | hm
  · exact List.mem_append.2 (.inl (h p hm))
  · exact List.mem_append.2 (.inr hm)
/-- a row is as said -/
def Blk.rowOk (ρ : List Value) (α : Nat → AV) (n : Nat) (b : Blk) : Prop := match b.k with
  | .row sz => 0 < sz ∧ ((b.xs ρ α = [] ∧ (α n).h = .slice none 0 0) ∨ ∃ len cap, (α n).h = .slice (some ⟨(α n).b, 0, none⟩) len cap ∧ (b.xs ρ α).length = len * sz ∧ (b.xs ρ α ++ (α n).tl).length = cap * sz ∧ len ≤ cap ∧ cap ≤ maxLen)
  | .ext sz => 0 < sz ∧ ∃ A len cap, (α n).h = .slice A len cap ∧ (b.xs ρ α).length = len * sz ∧ len ≤ cap ∧ (0 < len → A.isSome = true)
  | _ => True

/-- the length of a row is as said -/
def Blk.lenOk (ρ : List Value) (α : Nat → AV) (n : Nat) (b : Blk) : Prop := match b.k with
  | .row sz => 0 < sz ∧ ∃ A len cap, (α n).h = .slice A len cap ∧ (b.xs ρ α).length = len * sz ∧ (0 < len → A.isSome = true)
  | .ext sz => 0 < sz ∧ ∃ A len cap, (α n).h = .slice A len cap ∧ (b.xs ρ α).length = len * sz ∧ (0 < len → A.isSome = true)
  | _ => True
theorem Blk.rowOk.len {ρ : List Value} {α : Nat → AV} {n : Nat} {b : Blk} (h : b.rowOk ρ α n) : b.lenOk ρ α n := by
  unfold Blk.lenOk
  unfold Blk.rowOk at h
  split
  · rename_i sz hk
    rw [hk] at h
    obtain ⟨h0, ⟨h1, h2⟩ | ⟨len, cap, h1, h2, _⟩⟩ := h
    · exact ⟨h0, _, _, _, h2, by rw [h1]; simp, fun h => absurd h (by omega)⟩
    · exact ⟨h0, _, len, cap, h1, h2, fun _ => rfl⟩
  · rename_i sz hk
    rw [hk] at h
    obtain ⟨h0, A, len, cap, h1, h2, _, h3⟩ := h
    exact ⟨h0, A, len, cap, h1, h2, h3⟩
  · trivial
theorem chs_split {ρ : List Value} {α : Nat → AV} : ∀ {hp : List (Option Blk)} {k n : Nat} {o : Option Blk}, hp[n]? = some o →
    ∃ l1 l2, chs ρ α k hp = l1 ++ ((o.bind fun b => b.ch ρ α (k + n)).toList ++ l2) ∧ ∀ o', chs ρ α k (hp.set n o') = l1 ++ ((o'.bind fun b => b.ch ρ α (k + n)).toList ++ l2)
  | [], _, _, _, h => by simp at h
  | x :: l, k, 0, o, h => by
    obtain rfl : x = o := by simpa using h
    refine ⟨[], chs ρ α (k + 1) l, ?_, fun o' => ?_⟩
    · cases x <;> simp [chs]
    · cases o' <;> simp [chs]
  | x :: l, k, n + 1, o, h => by
    obtain ⟨l1, l2, h1, h2⟩ := chs_split (ρ := ρ) (α := α) (hp := l) (k := k + 1) (n := n) (o := o) (by simpa using h)
    rw [show k + 1 + n = k + (n + 1) by omega] at h1
    refine ⟨(x.bind fun b => b.ch ρ α k).toList ++ l1, l2, ?_, fun o' => ?_⟩
    · cases x <;> simp [chs, h1]
    · have := h2 o'
      rw [show k + 1 + n = k + (n + 1) by omega] at this
      cases x <;> simp [chs, this]
theorem upd_mid {k : Nat} {c c' : Array Value} {t : CT} (l2 : List Ch) : ∀ l1 : List Ch, Upd k c t c' (l1 ++ (⟨k, c, t⟩ :: l2)) (l1 ++ (⟨k, c', t⟩ :: l2))
  | [] => .here
  | _ :: l1 => .there (upd_mid l2 l1)
theorem chs_mem {ρ : List Value} {α : Nat → AV} {hp : List (Option Blk)} {k n : Nat} {b : Blk} {e : Ch} (h : hp[n]? = some (some b)) (he : b.ch ρ α (k + n) = some e) : e ∈ chs ρ α k hp := by
  obtain ⟨l1, l2, h1, _⟩ := chs_split (ρ := ρ) (α := α) (k := k) h
  rw [h1]
  simp [he]
theorem chs_set {ρ : List Value} {α : Nat → AV} {hp : List (Option Blk)} {k n : Nat} {b b' : Blk} {id : Nat} {c c' : Array Value} {t : CT} (h : hp[n]? = some (some b)) (he : b.ch ρ α (k + n) = some ⟨id, c, t⟩) (he' : b'.ch ρ α (k + n) = some ⟨id, c', t⟩) :
    Upd id c t c' (chs ρ α k hp) (chs ρ α k (hp.set n (some b'))) := by
  obtain ⟨l1, l2, h1, h2⟩ := chs_split (ρ := ρ) (α := α) (k := k) h
  rw [h1, h2]
  simp only [Option.bind_some, he, he', Option.toList_some, List.cons_append, List.nil_append]
  exact upd_mid l2 l1
theorem chs_new {ρ : List Value} {α : Nat → AV} {hp : List (Option Blk)} {k n : Nat} {b : Blk} {e : Ch} (h : hp[n]? = some none) (he : b.ch ρ α (k + n) = some e) : (e :: chs ρ α k hp).Perm (chs ρ α k (hp.set n (some b))) := by
  obtain ⟨l1, l2, h1, h2⟩ := chs_split (ρ := ρ) (α := α) (k := k) h
  rw [h1, h2]
  simp only [Option.bind_some, Option.bind_none, he, Option.toList_some, Option.toList_none, List.cons_append, List.nil_append]
  exact List.perm_middle.symm
theorem chs_new0 {ρ : List Value} {α : Nat → AV} {hp : List (Option Blk)} {k n : Nat} {b : Blk} (h : hp[n]? = some none) (he : b.ch ρ α (k + n) = none) : chs ρ α k (hp.set n (some b)) = chs ρ α k hp := by
  obtain ⟨l1, l2, h1, h2⟩ := chs_split (ρ := ρ) (α := α) (k := k) h
  rw [h1, h2]
  simp [he]
theorem chs_append {ρ : List Value} {α : Nat → AV} : ∀ (hp : List (Option Blk)) (k m : Nat), chs ρ α k (hp ++ List.replicate m none) = chs ρ α k hp
  | [], k, 0 => rfl
  | [], k, m + 1 => by
    have := chs_append (ρ := ρ) (α := α) [] (k + 1) m
    simpa [List.replicate_succ, chs] using this
  | none :: l, k, m => by simpa [chs] using chs_append l (k + 1) m
  | some b :: l, k, m => by simpa [chs] using chs_append l (k + 1) m

/-- a frame is as said -/
def Fm (ρ : List Value) (α : Nat → AV) (fr : List (Option V)) (tmps : Array Value) : Prop :=
  tmps.size = fr.length ∧ ∀ (s : Nat) (v : V), fr[s]? = some (some v) → tmps[s]? = some (v.den ρ α)
/-- a suspended frame: its temporaries, its marks, the loop over a function that it runs (its record's address, and the record when it is ready) -/
structure TF where
  t : Array Value
  ds : List Deferred
  lp : Option (Nat × Loop)
def LS.pe : LS → Option Code
  | .ret => some .ret
  | .exit id => some (.exit id)
  | _ => none
def LS.st : LS → LoopState
  | .ready => .ready
  | .busy => .busy
  | _ => .done
/-- the blocks of marks and of loops of suspended frames -/
def loopOs : List (Nat × LS) → List TF → List Ow
  | _, [] => []
  | lps, t :: T => match t.lp with
    | none => markOs t.ds ++ loopOs lps T
    | some (l, r) => match lps with
      | q :: lps' => ⟨l, .loop { r with state := q.2.st, pending := q.2.pe }⟩ :: ⟨r.defers, .deferred (some [])⟩ :: (markOs t.ds ++ loopOs lps' T)
      | [] => markOs t.ds ++ loopOs [] T
/-- the loops that run -/
def Lps (α : Nat → AV) (ok : Nat → Bool) : List (Nat × LS) → List TF → Prop
  | lps, [] => lps = []
  | lps, t :: T => Marks t.ds ∧ match t.lp with
    | none => Lps α ok lps T
    | some (l, r) => match lps with
      | q :: lps' => (ok q.1 = true ∧ (α q.1).b = l ∧ r.state = .ready ∧ r.pending = none ∧ r.tmps = t.t) ∧ Lps α ok lps' T
      | [] => False
theorem Lps.to {α α' : Nat → AV} {ok ok' : Nat → Bool} (h1 : ∀ n, ok n = true → α' n = α n) (h2 : ∀ n, ok n = true → ok' n = true) : ∀ {T : List TF} {lps : List (Nat × LS)}, Lps α ok lps T → Lps α' ok' lps T
  | [], _, h => h
  | t :: T, lps, h => by
    unfold Lps at h ⊢
    refine ⟨h.1, ?_⟩
    have h := h.2
    split at h
    · exact Lps.to h1 h2 h
    · split at h
      · obtain ⟨⟨a, b, c⟩, d⟩ := h
        exact ⟨⟨h2 _ a, by rw [h1 _ a]; exact b, c⟩, Lps.to h1 h2 d⟩
      · exact h.elim
def Fms (ρ : List Value) (α : Nat → AV) : List (List (Option V)) → List TF → Prop
  | [], [] => True
  | f :: l, t :: r => Fm ρ α f t.t ∧ Fms ρ α l r
  | _, _ => False

/-- what has been decided of what is not known, and its shapes -/
structure Good (ρ : List Value) (s : S) : Prop where
  len : s.sh.length = ρ.length
  fit : ∀ (i : Nat) (h : Sh), s.sh[i]? = some h → h.fit (ρ.getD i undef) = true
  kn : ∀ e ∈ s.kn, e.1 < ρ.length ∧ e.2.1.foldl comp (ρ.getD e.1 undef) = e.2.2

/-- a name is given -/
def lv (hp : List (Option Blk)) (n : Nat) : Bool := match hp[n]? with | some (some _) => true | _ => false
mutual
def V.wf (hp : List (Option Blk)) (m : Nat) : V → Bool
  | .k _ => true
  | .x i _ => decide (i < m)
  | .p n _ => lv hp n
  | .sl n _ _ _ => lv hp n
  | .row n => lv hp n
  | .cat cs => wfL hp m cs
  | .y n => lv hp n
  | .mapV n => lv hp n
  | .a cs => wfL hp m cs
  | .t vs => wfL hp m vs
  | .f _ first cap => wfL hp m first && wfL hp m cap
  | .ep s i _ _ => s.wf hp m && i.wf hp m
  | .ifc _ v => v.wf hp m
def wfL (hp : List (Option Blk)) (m : Nat) : List V → Bool
  | [] => true
  | v :: l => v.wf hp m && wfL hp m l
end
theorem wfL_mem {hp : List (Option Blk)} {m : Nat} : ∀ {l : List V}, wfL hp m l = true → ∀ v ∈ l, v.wf hp m = true
  | [], _, v, h => by simp at h
  | u :: l, h, v, hm => by
    simp only [wfL, Bool.and_eq_true] at h
    rcases List.mem_cons.1 hm with rfl | hm
    · exact h.1
    · exact wfL_mem h.2 v hm
theorem wfL_of {hp : List (Option Blk)} {m : Nat} : ∀ {l : List V}, (∀ v ∈ l, v.wf hp m = true) → wfL hp m l = true
  | [], _ => rfl
  | u :: l, h => by
    simp only [wfL, Bool.and_eq_true]
    exact ⟨h u (List.mem_cons_self ..), wfL_of fun v hv => h v (List.mem_cons_of_mem _ hv)⟩
section
variable {hp hp' : List (Option Blk)} {m m' : Nat}
mutual
theorem V.wf_mono (h1 : ∀ n, lv hp n = true → lv hp' n = true) (h2 : m ≤ m') : ∀ v : V, v.wf hp m = true → v.wf hp' m' = true
  | .k _, _ => rfl
  | .x i _, h => by simp only [V.wf, decide_eq_true_eq] at h ⊢; omega
  | .p n _, h => h1 n h
  | .sl n _ _ _, h => h1 n h
  | .row n, h => h1 n h
  | .cat cs, h => wfL_mono h1 h2 cs h
  | .y n, h => h1 n h
  | .mapV n, h => h1 n h
  | .a cs, h => wfL_mono h1 h2 cs h
  | .t cs, h => wfL_mono h1 h2 cs h
  | .f _ a b, h => by
    simp only [V.wf, Bool.and_eq_true] at h ⊢
    exact ⟨wfL_mono h1 h2 a h.1, wfL_mono h1 h2 b h.2⟩
  | .ep s i _ _, h => by
    simp only [V.wf, Bool.and_eq_true] at h ⊢
    exact ⟨V.wf_mono h1 h2 s h.1, V.wf_mono h1 h2 i h.2⟩
  | .ifc _ v, h => V.wf_mono h1 h2 v h
theorem wfL_mono (h1 : ∀ n, lv hp n = true → lv hp' n = true) (h2 : m ≤ m') : ∀ l : List V, wfL hp m l = true → wfL hp' m' l = true
  | [], _ => rfl
  | v :: l, h => by
    simp only [wfL, Bool.and_eq_true] at h ⊢
    exact ⟨V.wf_mono h1 h2 v h.1, wfL_mono h1 h2 l h.2⟩
end
end
section
variable {hp : List (Option Blk)} {ρ ρ' : List Value} {α α' : Nat → AV}
mutual
theorem V.den_eq2 (h1 : ∀ n, lv hp n = true → (α' n).b = (α n).b ∧ (α' n).h = (α n).h) (h2 : ρ <+: ρ') : ∀ v : V, v.wf hp ρ.length = true → v.den ρ' α' = v.den ρ α
  | .k _, _ => rfl
  | .x i path, h => by
    simp only [V.wf, decide_eq_true_eq] at h
    obtain ⟨r, rfl⟩ := h2
    simp [V.den, List.getD_eq_getElem?_getD, List.getElem?_append_left h]
  | .p n o, h => by simp only [V.den]; rw [(h1 n h).1]
  | .sl n o _ _, h => by simp only [V.den]; rw [(h1 n h).1]
  | .row n, h => by simp only [V.den]; rw [(h1 n h).2]
  | .cat cs, h => by simp only [V.den]; rw [denL_eq2 h1 h2 cs h]
  | .y n, h => by simp only [V.den]; rw [(h1 n h).1]
  | .mapV n, h => by simp only [V.den]; rw [(h1 n h).1]
  | .a cs, h => by simp only [V.den]; rw [denL_eq2 h1 h2 cs h]
  | .t cs, h => by simp only [V.den]; rw [denL_eq2 h1 h2 cs h]
  | .f _ a b, h => by
    simp only [V.wf, Bool.and_eq_true] at h
    simp only [V.den]; rw [denL_eq2 h1 h2 a h.1, denL_eq2 h1 h2 b h.2]
  | .ep s i _ _, h => by
    simp only [V.wf, Bool.and_eq_true] at h
    simp only [V.den]; rw [V.den_eq2 h1 h2 s h.1, V.den_eq2 h1 h2 i h.2]
  | .ifc _ v, h => by simp only [V.den]; rw [V.den_eq2 h1 h2 v h]
theorem denL_eq2 (h1 : ∀ n, lv hp n = true → (α' n).b = (α n).b ∧ (α' n).h = (α n).h) (h2 : ρ <+: ρ') : ∀ l : List V, wfL hp ρ.length l = true → denL ρ' α' l = denL ρ α l
  | [], _ => rfl
  | v :: l, h => by
    simp only [wfL, Bool.and_eq_true] at h
    simp only [denL]; rw [V.den_eq2 h1 h2 v h.1, denL_eq2 h1 h2 l h.2]
end
theorem V.den_eq (h1 : ∀ n, lv hp n = true → α' n = α n) (h2 : ρ <+: ρ') (v : V) (h : v.wf hp ρ.length = true) : v.den ρ' α' = v.den ρ α := V.den_eq2 (fun n hn => by rw [h1 n hn]; exact ⟨rfl, rfl⟩) h2 v h
theorem denL_eq (h1 : ∀ n, lv hp n = true → α' n = α n) (h2 : ρ <+: ρ') (l : List V) (h : wfL hp ρ.length l = true) : denL ρ' α' l = denL ρ α l := denL_eq2 (fun n hn => by rw [h1 n hn]; exact ⟨rfl, rfl⟩) h2 l h
end
def WfF (hp : List (Option Blk)) (m : Nat) (fr : List (Option V)) : Prop := ∀ v : V, some v ∈ fr → v.wf hp m = true
def WfH (hp : List (Option Blk)) (m : Nat) (l : List (Option Blk)) : Prop := ∀ b : Blk, some b ∈ l → wfL hp m b.c = true
structure S.Wf (s : S) (m : Nat) : Prop where
  fr : WfF s.ln m s.fr
  stk : ∀ f ∈ s.stk, WfF s.ln m f
  hp : WfH s.ln m s.hp
  ln : WfH s.ln m s.ln

theorem WfF.mono {hp hp' : List (Option Blk)} {m m' : Nat} {fr : List (Option V)} (h : WfF hp m fr) (h1 : ∀ n, lv hp n = true → lv hp' n = true) (h2 : m ≤ m') : WfF hp' m' fr := fun v hv => V.wf_mono h1 h2 v (h v hv)
theorem WfH.mono {hp hp' l : List (Option Blk)} {m m' : Nat} (h : WfH hp m l) (h1 : ∀ n, lv hp n = true → lv hp' n = true) (h2 : m ≤ m') : WfH hp' m' l := fun v hv => wfL_mono h1 h2 v.c (h v hv)
section
variable {hp : List (Option Blk)} {ρ ρ' : List Value} {α α' : Nat → AV} (h1 : ∀ n, lv hp n = true → α' n = α n) (h2 : ρ <+: ρ')
include h1 h2
theorem Fm.to {fr : List (Option V)} {tmps : Array Value} (h : Fm ρ α fr tmps) (hw : WfF hp ρ.length fr) : Fm ρ' α' fr tmps :=
  ⟨h.1, fun s v hv => by rw [V.den_eq h1 h2 v (hw v (List.mem_of_getElem? hv))]; exact h.2 s v hv⟩
theorem Fms.to : ∀ {l : List (List (Option V))} {T : List TF}, Fms ρ α l T → (∀ f ∈ l, WfF hp ρ.length f) → Fms ρ' α' l T
  | [], [], _, _ => trivial
  | f :: l, t :: T, h, hw => ⟨h.1.to h1 h2 (hw f (List.mem_cons_self ..)), Fms.to h.2 fun g hg => hw g (List.mem_cons_of_mem _ hg)⟩
  | [], _ :: _, h, _ => h
  | _ :: _, [], h, _ => h
theorem ch_to {n : Nat} {b : Blk} (hb : wfL hp ρ.length b.c = true) (hn : lv hp n = true) : b.ch ρ' α' n = b.ch ρ α n ∧ (b.rowOk ρ' α' n ↔ b.rowOk ρ α n) ∧ (b.lenOk ρ' α' n ↔ b.lenOk ρ α n) ∧ ∀ w0 : Org, b.ex w0 ρ' α' n = b.ex w0 ρ α n := by
  have e := denL_eq h1 h2 b.c hb
  have e2 := h1 n hn
  refine ⟨?_, ?_, ?_, fun w0 => ?_⟩
  · unfold Blk.ch Blk.xs; rw [e, e2]
  · unfold Blk.rowOk Blk.xs; rw [e, e2]
  · unfold Blk.lenOk Blk.xs; rw [e, e2]
  · unfold Blk.ex Blk.xs; rw [e, e2]
theorem chs_to : ∀ {l : List (Option Blk)} (k : Nat), WfH hp ρ.length l → (∀ n b, l[n]? = some (some b) → lv hp (k + n) = true) → chs ρ' α' k l = chs ρ α k l
  | [], _, _, _ => rfl
  | none :: l, k, h, hl => by
    unfold chs
    exact chs_to (k + 1) (fun b hb => h b (List.mem_cons_of_mem _ hb)) fun n b hb => by
      have := hl (n + 1) b (by simpa using hb)
      rwa [show k + 1 + n = k + (n + 1) by omega]
  | some b :: l, k, h, hl => by
    unfold chs
    rw [chs_to (k + 1) (fun b hb => h b (List.mem_cons_of_mem _ hb)) fun n b hb => by
      have := hl (n + 1) b (by simpa using hb)
      rwa [show k + 1 + n = k + (n + 1) by omega], (ch_to h1 h2 (h b (List.mem_cons_self ..)) (by simpa using hl 0 b rfl)).1]
end
theorem lv_of {hp : List (Option Blk)} {n : Nat} {b : Blk} (h : hp[n]? = some (some b)) : lv hp n = true := by simp [lv, h]
theorem chs_all {hp ln : List (Option Blk)} {ρ ρ' : List Value} {α α' : Nat → AV} (h1 : ∀ n, lv ln n = true → α' n = α n) (h2 : ρ <+: ρ') (hw : WfH ln ρ.length hp) (hl : ∀ (n : Nat) (b : Blk), hp[n]? = some (some b) → lv ln n = true) : chs ρ' α' 0 hp = chs ρ α 0 hp :=
  chs_to h1 h2 0 hw fun n b hb => by rw [Nat.zero_add]; exact hl n b hb

theorem exs_all {w0 : Org} {hp ln : List (Option Blk)} {ρ ρ' : List Value} {α α' : Nat → AV} (h1 : ∀ n, lv ln n = true → α' n = α n) (h2 : ρ <+: ρ') (hw : WfH ln ρ.length hp) (hl : ∀ (n : Nat) (b : Blk), hp[n]? = some (some b) → lv ln n = true) : ∀ p ∈ exs w0 ρ' α' 0 hp, p ∈ exs w0 ρ α 0 hp :=
  exs_sub fun n b hb => .inr ⟨b, hb, (ch_to h1 h2 (hw b (List.mem_of_getElem? hb)) (hl n b hb)).2.2.2 w0⟩
theorem st_ps {w0 : Org} {hs : List Ch} {os : List Ow} {ps ps' : List (World → Prop)} {W : World} (h : St w0 hs os ps W) (hp : ∀ p ∈ ps', p ∈ ps) : St w0 hs os ps' W := h.weak (.refl _) (.refl _) hp

/-- the blocks of marks and of loops -/
def osA (a : Act) (s : S) (T : List TF) : List Ow := markOs a.defers ++ loopOs s.lps T
@[simp] theorem put_defers (a : Act) (d : Option Tmp) (v : Value) : (a.put d v).defers = a.defers := by cases d <;> rfl
@[simp] theorem osA_put (a : Act) (d : Option Tmp) (v : Value) (s : S) (T : List TF) : osA (a.put d v) s T = osA a s T := by unfold osA; rw [put_defers]
/-- a world and its frames are as the state says, under these addresses -/
structure InvA (w0 : Org) (ps : List (World → Prop)) (T : List TF) (ρ : List Value) (s : S) (a : Act) (W : World) (α : Nat → AV) : Prop where
  defers : Marks a.defers ∧ Lps α (lv s.ln) s.lps T
  good : Good ρ s
  wf : s.Wf ρ.length
  fm : Fm ρ α s.fr a.tmps
  fms : Fms ρ α s.stk T
  st : St w0 (chs ρ α 0 s.hp) (osA a s T) (exs w0 ρ α 0 s.hp ++ ps) W
  rows : ∀ (n : Nat) (b : Blk), s.hp[n]? = some (some b) → lv s.ln n = true ∧ b.rowOk ρ α n
  lens : ∀ (n : Nat) (b : Blk), s.ln[n]? = some (some b) → b.lenOk ρ α n
/-- a world and its frames are as the state says -/
def Inv (w0 : Org) (ps : List (World → Prop)) (T : List TF) (ρ : List Value) (s : S) (a : Act) (W : World) : Prop := ∃ α, InvA w0 ps T ρ s a W α
theorem fit_ext {ρ : List Value} {sh : List Sh} {v : Value} {h : Sh} (hl : sh.length = ρ.length) (hf : ∀ (i : Nat) (h : Sh), sh[i]? = some h → h.fit (ρ.getD i undef) = true) (hv : h.fit v = true) : ∀ (i : Nat) (h' : Sh), (sh ++ [h])[i]? = some h' → h'.fit ((ρ ++ [v]).getD i undef) = true := by
  intro i h' hi
  by_cases hlt : i < sh.length
  · rw [List.getElem?_append_left hlt] at hi
    have := hf i h' hi
    rwa [List.getD_eq_getElem?_getD, List.getElem?_append_left (by omega), ← List.getD_eq_getElem?_getD]
  · rw [List.getElem?_append_right (by omega)] at hi
    have h0 : i - sh.length = 0 := by
      rcases Nat.eq_zero_or_pos (i - sh.length) with h0 | h0
      · exact h0
      · rw [List.getElem?_eq_none (by simp; omega)] at hi; cases hi
    rw [h0] at hi
    obtain rfl : h = h' := by simpa using hi
    have : i = ρ.length := by omega
    subst this
    simpa [List.getD_eq_getElem?_getD] using hv
/-- one more unknown -/
def S.ext (s : S) (h : Sh) : S := { s with sh := s.sh ++ [h] }
/-- what is decided -/
def S.dec (s : S) (i : Nat) (path : List Nat) (v : Value) : S := { s with kn := (i, path, v) :: s.kn }
/-- a slot is written -/
def S.put (s : S) (d : Option Tmp) (v : V) : S := match d with
  | some d => { s with fr := s.fr.set d (some v) }
  | none => s
/-- a block is laid at a name -/
def S.lay (s : S) (n : Nat) (b : Blk) : S := { s with hp := s.hp.set n (some b) }
/-- a block is made at a name -/
def S.make (s : S) (n : Nat) (b : Blk) : S := { s with hp := s.hp.set n (some b), ln := s.ln.set n (some b) }
/-- a block is written no more -/
def S.freeze (s : S) (n : Nat) : S := match (s.hp[n]?).join with
  | some b => s.lay n ⟨b.c, b.t, .froz⟩
  | none => s
/-- names to come -/
def S.room (s : S) (m : Nat) : S := { s with hp := s.hp ++ List.replicate m none, ln := s.ln ++ List.replicate m none }
section
variable {w0 : Org} {ps : List (World → Prop)} {T : List TF} {ρ : List Value} {s : S} {a : Act} {W W' : World} {α : Nat → AV}
theorem InvA.step (h : InvA w0 ps T ρ s a W α) (hb : Below W.heap.size W W') : InvA w0 ps T ρ s a W' α := ⟨h.defers, h.good, h.wf, h.fm, h.fms, h.st.step hb, h.rows, h.lens⟩
theorem InvA.live (h : InvA w0 ps T ρ s a W α) : ∀ (n : Nat) (b : Blk), s.hp[n]? = some (some b) → lv s.ln n = true := fun n b hb => (h.rows n b hb).1
theorem InvA.fact (h : InvA w0 ps T ρ s a W α) {p : World → Prop} (hp : p ∈ ps) : p W := h.st.fact (List.mem_append.2 (.inr hp))
theorem rows_to {hp ln : List (Option Blk)} {ρ ρ' : List Value} {α α' : Nat → AV} (h1 : ∀ n, lv ln n = true → α' n = α n) (h2 : ρ <+: ρ') (hw : WfH ln ρ.length hp) (h : ∀ (n : Nat) (b : Blk), hp[n]? = some (some b) → lv ln n = true ∧ b.rowOk ρ α n) : ∀ (n : Nat) (b : Blk), hp[n]? = some (some b) → lv ln n = true ∧ b.rowOk ρ' α' n := fun n b hb => ⟨(h n b hb).1, (ch_to h1 h2 (hw b (List.mem_of_getElem? hb)) (h n b hb).1).2.1.2 (h n b hb).2⟩
theorem lens_to {ln : List (Option Blk)} {ρ ρ' : List Value} {α α' : Nat → AV} (h1 : ∀ n, lv ln n = true → α' n = α n) (h2 : ρ <+: ρ') (hw : WfH ln ρ.length ln) (h : ∀ (n : Nat) (b : Blk), ln[n]? = some (some b) → b.lenOk ρ α n) : ∀ (n : Nat) (b : Blk), ln[n]? = some (some b) → b.lenOk ρ' α' n := fun n b hb => (ch_to h1 h2 (hw b (List.mem_of_getElem? hb)) (lv_of hb)).2.2.1.2 (h n b hb)
theorem Inv.step (h : Inv w0 ps T ρ s a W) (hb : Below W.heap.size W W') : Inv w0 ps T ρ s a W' := let ⟨α, h⟩ := h; ⟨α, h.step hb⟩
theorem Good.ext (hg : Good ρ s) {h : Sh} {v : Value} (hv : h.fit v = true) : Good (ρ ++ [v]) (s.ext h) :=
  ⟨by simp [S.ext, hg.len], fit_ext hg.len hg.fit hv, fun e he => by
    obtain ⟨h1, h2⟩ := hg.kn e he
    refine ⟨by simp; omega, ?_⟩
    rwa [List.getD_eq_getElem?_getD, List.getElem?_append_left h1, ← List.getD_eq_getElem?_getD]⟩
theorem InvA.ext (hI : InvA w0 ps T ρ s a W α) {h : Sh} {v : Value} (hv : h.fit v = true) : InvA w0 ps T (ρ ++ [v]) (s.ext h) a W α := by
  have hp : ρ <+: ρ ++ [v] := ⟨[v], rfl⟩
  have hl : ρ.length ≤ (ρ ++ [v]).length := by simp
  have ha : ∀ n, lv s.ln n = true → α n = α n := fun _ _ => rfl
  refine ⟨hI.defers, hI.good.ext hv, ⟨hI.wf.fr.mono (fun _ h => h) hl, fun f hf => (hI.wf.stk f hf).mono (fun _ h => h) hl, hI.wf.hp.mono (fun _ h => h) hl, hI.wf.ln.mono (fun _ h => h) hl⟩, hI.fm.to ha hp hI.wf.fr, hI.fms.to ha hp hI.wf.stk, ?_, rows_to ha hp hI.wf.hp hI.rows, lens_to ha hp hI.wf.ln hI.lens⟩
  show St w0 (chs (ρ ++ [v]) α 0 s.hp) (osA a s T) (exs w0 (ρ ++ [v]) α 0 s.hp ++ ps) W
  rw [chs_all ha hp hI.wf.hp hI.live]
  exact st_ps hI.st (app_sub (exs_all ha hp hI.wf.hp hI.live))
theorem InvA.dec (hI : InvA w0 ps T ρ s a W α) {i : Nat} {path : List Nat} {v : Value} (hi : i < ρ.length) (hv : path.foldl comp (ρ.getD i undef) = v) : InvA w0 ps T ρ (s.dec i path v) a W α :=
  ⟨hI.defers, ⟨hI.good.len, hI.good.fit, fun e he => by
    rcases List.mem_cons.1 he with rfl | he
    · exact ⟨hi, hv⟩
    · exact hI.good.kn e he⟩, ⟨hI.wf.fr, hI.wf.stk, hI.wf.hp, hI.wf.ln⟩, hI.fm, hI.fms, hI.st, hI.rows, hI.lens⟩
theorem mem_set {α : Type} {l : List α} {i : Nat} {x y : α} (h : y ∈ l.set i x) : y = x ∨ y ∈ l := by
  rcases List.mem_or_eq_of_mem_set h with h | h
  · exact .inr h
  · exact .inl h
theorem Fm.set {fr : List (Option V)} {tmps : Array Value} (h : Fm ρ α fr tmps) (d : Nat) (v : V) : Fm ρ α (fr.set d (some v)) (tmps.setIfInBounds d (v.den ρ α)) := by
  refine ⟨by simp [h.1], fun s u hu => ?_⟩
  rw [List.getElem?_set] at hu
  rw [Array.getElem?_setIfInBounds]
  by_cases hd : d = s
  · subst hd
    rw [if_pos rfl] at hu
    split at hu
    · rename_i hlt
      obtain rfl : v = u := by simpa using hu
      rw [if_pos rfl, if_pos (by rw [h.1]; exact hlt)]
    · cases hu
  · rw [if_neg hd] at hu
    rw [if_neg hd]
    exact h.2 s u hu
theorem InvA.put (hI : InvA w0 ps T ρ s a W α) (d : Option Tmp) {v : V} (hv : v.wf s.ln ρ.length = true) : InvA w0 ps T ρ (s.put d v) (a.put d (v.den ρ α)) W α := by
  cases d with
  | none => exact hI
  | some d =>
    refine ⟨hI.defers, ⟨hI.good.len, hI.good.fit, hI.good.kn⟩, ⟨fun u hu => ?_, hI.wf.stk, hI.wf.hp, hI.wf.ln⟩, hI.fm.set d v, hI.fms, hI.st, hI.rows, hI.lens⟩
    rcases mem_set hu with h | h
    · obtain rfl : u = v := by simpa using h
      exact hv
    · exact hI.wf.fr u h
theorem InvA.put_any (hI : InvA w0 ps T ρ s a W α) (d : Option Tmp) {v : V} (hv : v.wf s.ln ρ.length = true) {u : Value} (hu : u = v.den ρ α) : InvA w0 ps T ρ (s.put d v) (a.put d u) W α := hu ▸ hI.put d hv
theorem lv_iff {hp : List (Option Blk)} {n : Nat} : lv hp n = true ↔ ∃ b, hp[n]? = some (some b) := by
  unfold lv
  cases h : hp[n]? with
  | none => simp
  | some o => cases o <;> simp
theorem lv_set {hp : List (Option Blk)} {m n : Nat} {b : Blk} (h : lv hp n = true) : lv (hp.set m (some b)) n = true := by
  rw [lv_iff] at *
  obtain ⟨c, hc⟩ := h
  rw [List.getElem?_set]
  by_cases hm : m = n
  · subst hm
    have := (List.getElem?_eq_some_iff.1 hc).1
    exact ⟨b, by simp [this]⟩
  · exact ⟨c, by simp [hm, hc]⟩
theorem lv_ne {hp : List (Option Blk)} {m n : Nat} (h : lv hp n = true) (hm : hp[m]? = some none) : n ≠ m := by
  rintro rfl
  simp [lv, hm] at h
theorem set_cases {hp : List (Option Blk)} {m n : Nat} {x b : Blk} (h : (hp.set m (some x))[n]? = some (some b)) : (n = m ∧ b = x) ∨ (n ≠ m ∧ hp[n]? = some (some b)) := by
  rw [List.getElem?_set] at h
  split at h
  · rename_i e
    subst e
    split at h
    · exact .inl ⟨rfl, by simpa using h.symm⟩
    · cases h
  · rename_i e
    exact .inr ⟨fun h => e h.symm, h⟩
/-- a name that is free -/
def freeIn (s : S) (n : Nat) : Prop := s.hp[n]? = some none ∧ s.ln[n]? = some none
/-- a new name: a block, or a row -/
theorem InvA.new' (hI : InvA w0 ps T ρ s a W α) {nm : Nat} (hnm : freeIn s nm) {b : Blk} (hb : wfL s.ln ρ.length b.c = true) {W' : World} (A : AV) (hS : ∀ α', α' nm = A → (∀ n, lv s.ln n = true → α' n = α n) → denL ρ α' b.c = denL ρ α b.c → chs ρ α' 0 s.hp = chs ρ α 0 s.hp → St w0 (chs ρ α' 0 (s.hp.set nm (some b))) (osA a s T) ((b.ex w0 ρ α' nm).toList ++ (exs w0 ρ α 0 s.hp ++ ps)) W' ∧ b.rowOk ρ α' nm) :
    ∃ α', α' nm = A ∧ (∀ n, lv s.ln n = true → α' n = α n) ∧ InvA w0 ps T ρ (s.make nm b) a W' α' := by
  have ha : ∀ n, lv s.ln n = true → (fun n => if n = nm then A else α n) n = α n := fun n hn => by simp [lv_ne hn hnm.2]
  have hr := List.prefix_refl ρ
  have hlv : ∀ n, lv s.ln n = true → lv (s.ln.set nm (some b)) n = true := fun n hn => lv_set hn
  have hnl : lv (s.ln.set nm (some b)) nm = true := lv_iff.2 ⟨b, by rw [List.getElem?_set]; simp [(List.getElem?_eq_some_iff.1 hnm.2).1]⟩
  obtain ⟨h1, h2⟩ := hS (fun n => if n = nm then A else α n) (by simp) ha (denL_eq ha hr b.c hb) (chs_all ha hr hI.wf.hp hI.live)
  refine ⟨fun n => if n = nm then A else α n, by simp, ha, ⟨hI.defers.1, hI.defers.2.to ha hlv⟩, ⟨hI.good.len, hI.good.fit, hI.good.kn⟩, ⟨hI.wf.fr.mono hlv (Nat.le_refl _), fun f hf => (hI.wf.stk f hf).mono hlv (Nat.le_refl _), fun c hc => ?_, fun c hc => ?_⟩, hI.fm.to ha hr hI.wf.fr, hI.fms.to ha hr hI.wf.stk, st_ps h1 ?_, fun n c hc => ?_, fun n c hc => ?_⟩
  case refine_3 =>
    intro p hp
    rcases List.mem_append.1 hp with hp | hp
    · obtain ⟨n, c, hc, he⟩ := exs_mem.1 hp
      rw [Nat.zero_add] at he
      rcases set_cases hc with ⟨rfl, rfl⟩ | ⟨_, h⟩
      · exact List.mem_append.2 (.inl (by rw [he]; simp))
      · refine List.mem_append.2 (.inr (List.mem_append.2 (.inl (exs_mem.2 ⟨n, c, h, ?_⟩))))
        rw [Nat.zero_add, ← (ch_to ha hr (hI.wf.hp c (List.mem_of_getElem? h)) (hI.live n c h)).2.2.2 w0]
        exact he
    · exact List.mem_append.2 (.inr (List.mem_append.2 (.inr hp)))
  · rcases mem_set hc with h | h
    · obtain rfl : c = b := by simpa using h
      exact wfL_mono hlv (Nat.le_refl _) c.c hb
    · exact wfL_mono hlv (Nat.le_refl _) c.c (hI.wf.hp c h)
  · rcases mem_set hc with h | h
    · obtain rfl : c = b := by simpa using h
      exact wfL_mono hlv (Nat.le_refl _) c.c hb
    · exact wfL_mono hlv (Nat.le_refl _) c.c (hI.wf.ln c h)
  · rcases set_cases hc with ⟨rfl, rfl⟩ | ⟨_, h⟩
    · exact ⟨hnl, h2⟩
    · obtain ⟨h3, h4⟩ := rows_to ha hr hI.wf.hp hI.rows n c h
      exact ⟨hlv n h3, h4⟩
  · rcases set_cases hc with ⟨rfl, rfl⟩ | ⟨_, h⟩
    · exact h2.len
    · exact lens_to ha hr hI.wf.ln hI.lens n c h
/-- a new name for an old one -/
theorem InvA.move (hI : InvA w0 ps T ρ s a W α) {nm n : Nat} (hnm : freeIn s nm) (hn : lv s.ln n = true) {b : Blk} (hb : wfL s.ln ρ.length b.c = true) {W' : World} (A : AV) (hS : ∀ α', α' nm = A → (∀ n, lv s.ln n = true → α' n = α n) → denL ρ α' b.c = denL ρ α b.c → (∀ (m : Nat) (c : Blk), s.hp[m]? = some (some c) → c.ch ρ α' m = c.ch ρ α m) → chs ρ α' 0 s.hp = chs ρ α 0 s.hp → St w0 (chs ρ α' 0 ((s.hp.set nm (some b)).set n (some tomb))) (osA a s T) (exs w0 ρ α 0 s.hp ++ ps) W' ∧ b.rowOk ρ α' nm) (hbo : b.own = true) :
    ∃ α', α' nm = A ∧ (∀ n, lv s.ln n = true → α' n = α n) ∧ InvA w0 ps T ρ ((s.make nm b).lay n tomb) a W' α' := by
  have ha : ∀ n, lv s.ln n = true → (fun n => if n = nm then A else α n) n = α n := fun n hn => by simp [lv_ne hn hnm.2]
  have hr := List.prefix_refl ρ
  have hlv : ∀ m, lv s.ln m = true → lv (s.ln.set nm (some b)) m = true := fun m hm => lv_set hm
  have hnl : lv (s.ln.set nm (some b)) nm = true := lv_iff.2 ⟨b, by rw [List.getElem?_set]; simp [(List.getElem?_eq_some_iff.1 hnm.2).1]⟩
  obtain ⟨h1, h2⟩ := hS (fun n => if n = nm then A else α n) (by simp) ha (denL_eq ha hr b.c hb) (fun m c hm => (ch_to ha hr (hI.wf.hp c (List.mem_of_getElem? hm)) (hI.live m c hm)).1) (chs_all ha hr hI.wf.hp hI.live)
  refine ⟨fun n => if n = nm then A else α n, by simp, ha, ⟨hI.defers.1, hI.defers.2.to ha hlv⟩, ⟨hI.good.len, hI.good.fit, hI.good.kn⟩, ⟨hI.wf.fr.mono hlv (Nat.le_refl _), fun f hf => (hI.wf.stk f hf).mono hlv (Nat.le_refl _), fun c hc => ?_, fun c hc => ?_⟩, hI.fm.to ha hr hI.wf.fr, hI.fms.to ha hr hI.wf.stk, st_ps h1 (app_sub (exs_sub fun m c hc => ?_)), fun m c hc => ?_, fun n c hc => ?_⟩
  case refine_3 =>
    rcases set_cases hc with ⟨rfl, rfl⟩ | ⟨_, h⟩
    · exact .inl rfl
    · rcases set_cases h with ⟨rfl, rfl⟩ | ⟨_, h⟩
      · exact .inl hbo
      · exact .inr ⟨c, h, (ch_to ha hr (hI.wf.hp c (List.mem_of_getElem? h)) (hI.live m c h)).2.2.2 w0⟩
  · rcases mem_set hc with h | h
    · obtain rfl : c = tomb := by simpa using h
      rfl
    · rcases mem_set h with h | h
      · obtain rfl : c = b := by simpa using h
        exact wfL_mono hlv (Nat.le_refl _) c.c hb
      · exact wfL_mono hlv (Nat.le_refl _) c.c (hI.wf.hp c h)
  · rcases mem_set hc with h | h
    · obtain rfl : c = b := by simpa using h
      exact wfL_mono hlv (Nat.le_refl _) c.c hb
    · exact wfL_mono hlv (Nat.le_refl _) c.c (hI.wf.ln c h)
  · rcases set_cases hc with ⟨rfl, rfl⟩ | ⟨_, h⟩
    · exact ⟨hlv _ hn, by simp [Blk.rowOk, tomb]⟩
    · rcases set_cases h with ⟨rfl, rfl⟩ | ⟨_, h⟩
      · exact ⟨hnl, h2⟩
      · obtain ⟨h3, h4⟩ := rows_to ha hr hI.wf.hp hI.rows m c h
        exact ⟨hlv m h3, h4⟩
  · rcases set_cases hc with ⟨rfl, rfl⟩ | ⟨_, h⟩
    · exact h2.len
    · exact lens_to ha hr hI.wf.ln hI.lens n c h
/-- a new slice that is only read -/
theorem InvA.newE (hI : InvA w0 ps T ρ s a W α) {nm sz : Nat} (hnm : freeIn s nm) {b : Blk} (hk : b.k = .ext sz) (hb : wfL s.ln ρ.length b.c = true) {W' : World} (A : AV) (hS : St w0 (chs ρ α 0 s.hp) (osA a s T) (exs w0 ρ α 0 s.hp ++ ps) W') (h0 : 0 < sz) (hl : ∃ ad len cap, A.h = .slice ad len cap ∧ (b.xs ρ α).length = len * sz ∧ len ≤ cap ∧ (0 < len → ad.isSome = true))
    (hx : ∀ W2, Same (muts (chs ρ α 0 s.hp) (osA a s T)) W' W2 → exFact w0 ⟨A.h, sz, b.xs ρ α⟩ W2) :
    ∃ α', α' nm = A ∧ (∀ n, lv s.ln n = true → α' n = α n) ∧ InvA w0 ps T ρ (s.make nm b) a W' α' := by
  refine hI.new' hnm hb A fun α' h1 h2 h3 h4 => ⟨?_, ?_⟩
  · have hxs : b.xs ρ α' = b.xs ρ α := by unfold Blk.xs; rw [h3]
    rw [chs_new0 (k := 0) hnm.1 (by simp only [Blk.ch, hk]), h4]
    simp only [Blk.ex, hk, h1, hxs, Option.toList_some, List.cons_append, List.nil_append]
    exact hS.keep hx
  · have hxs : b.xs ρ α' = b.xs ρ α := by unfold Blk.xs; rw [h3]
    simp only [Blk.rowOk, hk, h1, hxs]
    exact ⟨h0, hl⟩
theorem InvA.new (hI : InvA w0 ps T ρ s a W α) {nm : Nat} (hnm : freeIn s nm) {b : Blk} (hk : b.k = .cells) (hb : wfL s.ln ρ.length b.c = true) {k : Nat} {W' : World} (hS : St w0 (⟨k, (denL ρ α b.c).toArray, b.t⟩ :: chs ρ α 0 s.hp) (osA a s T) (exs w0 ρ α 0 s.hp ++ ps) W') :
    ∃ α', (α' nm).b = k ∧ (∀ n, lv s.ln n = true → α' n = α n) ∧ InvA w0 ps T ρ (s.make nm b) a W' α' := by
  obtain ⟨α', h1, h2, h3⟩ := hI.new' hnm hb (W' := W') ⟨k, undef, []⟩ fun α' h1 h2 h3 h4 => by
    refine ⟨St.perm ?_ (chs_new (k := 0) hnm.1 (e := ⟨k, (denL ρ α b.c).toArray, b.t⟩) ?_), ?_⟩
    · rw [h4, Blk.own_ex (by simp [Blk.own, hk])]; exact hS
    · simp only [Blk.ch, hk, Nat.zero_add, h1, h3]
    · simp only [Blk.rowOk, hk]
  exact ⟨α', by rw [h1], h2, h3⟩
/-- a block, or a row, is as it is now -/
theorem InvA.wr' (hI : InvA w0 ps T ρ s a W α) {n : Nat} {b b' : Blk} (hn : s.hp[n]? = some (some b)) (hc : wfL s.ln ρ.length b'.c = true) (hr : b'.rowOk ρ α n) (hbo : b'.own = true) {W' : World} (hS : St w0 (chs ρ α 0 (s.hp.set n (some b'))) (osA a s T) (exs w0 ρ α 0 s.hp ++ ps) W') : InvA w0 ps T ρ (s.lay n b') a W' α := by
  refine ⟨hI.defers, ⟨hI.good.len, hI.good.fit, hI.good.kn⟩, ⟨hI.wf.fr, hI.wf.stk, fun d hd => ?_, hI.wf.ln⟩, hI.fm, hI.fms, st_ps hS (app_sub (exs_sub fun m c hcm => ?_)), fun m c hcm => ?_, hI.lens⟩
  case refine_2 =>
    rcases set_cases hcm with ⟨rfl, rfl⟩ | ⟨_, h⟩
    · exact .inl hbo
    · exact .inr ⟨c, h, rfl⟩
  · rcases mem_set hd with h | h
    · obtain rfl : d = b' := by simpa using h
      exact hc
    · exact hI.wf.hp d h
  · rcases set_cases hcm with ⟨rfl, rfl⟩ | ⟨_, h⟩
    · exact ⟨hI.live _ _ hn, hr⟩
    · exact hI.rows m c h
theorem InvA.wr (hI : InvA w0 ps T ρ s a W α) {n : Nat} {b : Blk} (hn : s.hp[n]? = some (some b)) (hk : b.k = .cells) {c : List V} (hc : wfL s.ln ρ.length c = true) {W' : World} (hS : St w0 (chs ρ α 0 (s.hp.set n (some ⟨c, b.t, b.k⟩))) (osA a s T) (exs w0 ρ α 0 s.hp ++ ps) W') : InvA w0 ps T ρ (s.lay n ⟨c, b.t, b.k⟩) a W' α :=
  hI.wr' hn hc (by simp [Blk.rowOk, hk]) (by simp [Blk.own, hk]) hS
theorem lv_app {hp : List (Option Blk)} {m n : Nat} (h : lv hp n = true) : lv (hp ++ List.replicate m none) n = true := by
  unfold lv at *
  by_cases hn : n < hp.length
  · rw [List.getElem?_append_left hn]; exact h
  · rw [List.getElem?_eq_none (by omega)] at h; cases h
theorem app_at {hp : List (Option Blk)} {m n : Nat} {b : Blk} (hb : (hp ++ List.replicate m none)[n]? = some (some b)) : hp[n]? = some (some b) := by
  rw [List.getElem?_append] at hb
  split at hb
  · exact hb
  · rw [List.getElem?_replicate] at hb; split at hb <;> simp at hb
theorem InvA.room (hI : InvA w0 ps T ρ s a W α) (m : Nat) : InvA w0 ps T ρ (s.room m) a W α := by
  have hlv : ∀ n, lv s.ln n = true → lv (s.ln ++ List.replicate m none) n = true := fun n hn => lv_app hn
  refine ⟨⟨hI.defers.1, hI.defers.2.to (fun _ _ => rfl) hlv⟩, ⟨hI.good.len, hI.good.fit, hI.good.kn⟩, ⟨hI.wf.fr.mono hlv (Nat.le_refl _), fun f hf => (hI.wf.stk f hf).mono hlv (Nat.le_refl _), fun c hc => ?_, fun c hc => ?_⟩, hI.fm, hI.fms, ?_, fun n b hb => ?_, fun n b hb => hI.lens n b (app_at hb)⟩
  · rcases List.mem_append.1 hc with h | h
    · exact wfL_mono hlv (Nat.le_refl _) c.c (hI.wf.hp c h)
    · have := List.eq_of_mem_replicate h; cases this
  · rcases List.mem_append.1 hc with h | h
    · exact wfL_mono hlv (Nat.le_refl _) c.c (hI.wf.ln c h)
    · have := List.eq_of_mem_replicate h; cases this
  · show St w0 (chs ρ α 0 (s.hp ++ List.replicate m none)) (osA a s T) (exs w0 ρ α 0 (s.hp ++ List.replicate m none) ++ ps) W
    rw [chs_append]
    exact st_ps hI.st (app_sub (exs_sub fun n b hb => .inr ⟨b, app_at hb, rfl⟩))
  · obtain ⟨h1, h2⟩ := hI.rows n b (app_at hb)
    exact ⟨hlv n h1, h2⟩
theorem InvA.blk (hI : InvA w0 ps T ρ s a W α) {n : Nat} {b : Blk} (hn : s.hp[n]? = some (some b)) (hk : b.k = .cells) : (⟨(α n).b, (denL ρ α b.c).toArray, b.t⟩ : Ch) ∈ chs ρ α 0 s.hp :=
  chs_mem (k := 0) hn (by simp only [Blk.ch, hk, Nat.zero_add])
end

/-- the value of an operand, with what has been decided -/
def look (kn : List (Nat × List Nat × Value)) (i : Nat) (path : List Nat) : V := match kn.find? (fun e => e.1 == i && e.2.1 == path) with
  | some e => .k e.2.2
  | none => .x i path
def norm : Value → V
  | .agg cs => .a (cs.toList.map .k)
  | .tuple vs => .t (vs.toList.map .k)
  | .func fn first cap => .f fn (first.toList.map .k) (cap.toList.map .k)
  | v => .k v
def lookV (kn : List (Nat × List Nat × Value)) : Option V → Option V
  | some (.x i path) => some (look kn i path)
  | v => v
def S.ev (s : S) : Operand → Option V
  | .tmp t => lookV s.kn (s.fr[t]?).join
  | .const v => some (norm v)
  | .global g => some (.k (.pointer (some ⟨g, 0, none⟩)))
  | .func f => some (.f (.func f) [] [])

theorem den_norm (ρ : List Value) (α : Nat → AV) (v : Value) : (norm v).den ρ α = v := by
  have h : ∀ l : List Value, denL ρ α (l.map .k) = l := fun l => by rw [denL_map, List.map_map]; exact (List.map_congr_left fun x _ => by simp [V.den]).trans (List.map_id l)
  cases v <;> simp [norm, V.den, h]
theorem den_look {ρ : List Value} {s : S} (hg : Good ρ s) (α : Nat → AV) (i : Nat) (path : List Nat) : (look s.kn i path).den ρ α = (V.x i path).den ρ α := by
  unfold look
  cases hf : s.kn.find? (fun e => e.1 == i && e.2.1 == path) with
  | none => rfl
  | some e =>
    have hm := List.mem_of_find?_eq_some hf
    have hq := List.find?_some hf
    simp only [Bool.and_eq_true, beq_iff_eq] at hq
    have := hg.kn e hm
    rw [hq.1, hq.2] at this
    simp only [V.den]
    rw [← this.2]
theorem ev_den {ρ : List Value} {s : S} (hg : Good ρ s) {α : Nat → AV} {a : Act} (hf : Fm ρ α s.fr a.tmps) {x : Operand} {v : V} (h : s.ev x = some v) : a.eval x = v.den ρ α := by
  cases x with
  | tmp t =>
    have h : lookV s.kn (s.fr[t]?).join = some v := h
    have key : ∀ u, (s.fr[t]?).join = some u → a.eval (.tmp t) = u.den ρ α := fun u hu => by
      have h1 : s.fr[t]? = some (some u) := by
        cases hq : s.fr[t]? with
        | none => rw [hq] at hu; simp at hu
        | some r => rw [hq] at hu; simp at hu; rw [hu]
      have := hf.2 t u h1
      simp [Act.eval, Array.getD_eq_getD_getElem?, this]
    unfold lookV at h
    split at h
    · rename_i i path hq
      have := key _ hq
      rw [this, ← den_look hg α i path]
      obtain rfl : look s.kn i path = v := by simpa using h
      rfl
    · exact key _ h
  | const c =>
    obtain rfl : norm c = v := by simpa [S.ev] using h
    simp [Act.eval, den_norm]
  | global g =>
    obtain rfl : V.k _ = v := by simpa [S.ev] using h
    simp [Act.eval, V.den]
  | func f =>
    obtain rfl : V.f _ _ _ = v := by simpa [S.ev] using h
    simp [Act.eval, V.den, denL]
end SX
end Go.Proofs.Ytmkigejhgpoleaa
