/-
  '==' and '!=' on structs and arrays whose parts are numbers, bools and strings: as their cells are.
-/
import Derived.Test.YtmkigejhgpoleaaOps
import Derived.Laws.StructEq
import Derived.DeepKeys
namespace Go.Proofs.Ytmkigejhgpoleaa
set_option linter.unusedSimpArgs false
set_option linter.unusedVariables false
open Go Go.RowKit

inductive CK where
  | b | s | i (k : IntKind)
  deriving DecidableEq
def CK.fit : CK → Value → Bool
  | .b, .bool _ => true
  | .s, .string _ => true
  | .i k, .int k' _ => k == k'
  | _, _ => false
def fits : List CK → List Value → Bool
  | [], [] => true
  | k :: l, v :: r => k.fit v && fits l r
  | _, _ => false
theorem fits_len : ∀ {l : List CK} {r : List Value}, fits l r = true → l.length = r.length
  | [], [], _ => rfl
  | k :: l, v :: r, h => by
    simp only [fits, Bool.and_eq_true] at h
    simp [fits_len h.2]
  | [], _ :: _, h => by simp [fits] at h
  | _ :: _, [], h => by simp [fits] at h
theorem fits_split : ∀ {l l' : List CK} {r : List Value}, fits (l ++ l') r = true → fits l (r.take l.length) = true ∧ fits l' (r.drop l.length) = true
  | [], l', r, h => by simpa [fits] using h
  | k :: l, l', [], h => by simp [fits] at h
  | k :: l, l', v :: r, h => by
    simp only [List.cons_append, fits, Bool.and_eq_true] at h
    have := fits_split h.2
    simp [fits, h.1, this.1, this.2]
theorem fits_join {l l' : List CK} {r r' : List Value} (h : fits l r = true) (h' : fits l' r' = true) : fits (l ++ l') (r ++ r') = true := by
  induction l generalizing r with
  | nil => cases r with
    | nil => simpa using h'
    | cons v r => simp [fits] at h
  | cons k l ih => cases r with
    | nil => simp [fits] at h
    | cons v r =>
      simp only [fits, Bool.and_eq_true] at h
      simp [fits, h.1, ih h.2]
theorem fits_map {α : Type} {k : CK} {f : α → Value} (hf : ∀ x, k.fit (f x) = true) : ∀ (xs : List α), fits (List.replicate xs.length k) (xs.map f) = true
  | [] => rfl
  | x :: xs => by simp [List.replicate_succ, fits, hf x, fits_map hf xs]

def fieldsK (g : TypeId → Option (List CK)) : Nat → List Field → Option (List CK)
  | _, [] => some []
  | off, f :: r => if f.name = "_" ∨ f.offset ≠ off then none else
    match g f.type with
    | some l => (fieldsK g (off + l.length) r).map (l ++ ·)
    | none => none
/-- the kinds of a type's cells -/
def kindsT (P : Program) : Nat → TypeId → Option (List CK)
  | 0, _ => none
  | d + 1, t => match P.underlying t with
    | some .bool => some [.b]
    | some (.int k) => some [.i k]
    | some .string => some [.s]
    | some (.array n e) => match kindsT P d e with
      | some l => if szOf P t = some (n * l.length) ∧ szOf P e = some l.length then some (List.replicate n l).flatten else none
      | none => none
    | some (.struct fs) => if P.stoodInHeld t = true then none else fieldsK (fun t => match kindsT P d t with | some l => if szOf P t = some l.length then some l else none | none => none) 0 fs.toList
    | _ => none

/-- a value of a type, out of its cells -/
def shaped (P : Program) (t : TypeId) (v : Value) (cs : List Value) : Prop := match rowOf P t with
  | some true => v = .agg cs.toArray
  | some false => cs = [v]
  | none => False

section
variable {P : Program} (w : World)
def EqOk (P : Program) (dd : Nat) (t : TypeId) (l : List CK) : Prop :=
  ∀ (w : World) (a b : Value) (xs ys : List Value), shaped P t a xs → shaped P t b ys → fits l xs = true → fits l ys = true → ∃ r : Bool, (Op.equalIn dd t a b).run P w = .ok r w ∧ (r = true ↔ xs = ys)

theorem part_ok {t : TypeId} {n off : Nat} {cs : List Value} (hs : szOf P t = some n) {b : Bool} (hr : rowOf P t = some b) (hb : b = false → n = 1) (hlen : off + n ≤ cs.length) :
    ∃ a, (part t cs.toArray off).run P w = .ok a w ∧ shaped P t a ((cs.drop off).take n) := by
  cases b with
  | true =>
    refine ⟨.agg ((cs.drop off).take n).toArray, ?_, by simp [shaped, hr]⟩
    simp [part, Sem.run_bind, run_rowOf hr, run_szOf hs]
  | false =>
    obtain rfl := hb rfl
    have hlt : off < cs.length := by omega
    refine ⟨cs[off], ?_, ?_⟩
    · simp [part, Sem.run_bind, run_rowOf hr, hlt]
    · simp only [shaped, hr]
      rw [List.drop_eq_getElem_cons hlt, List.take_succ_cons, List.take_zero]
theorem take_drop_eq {xs ys : List Value} {n : Nat} : (xs = ys) ↔ (xs.take n = ys.take n ∧ xs.drop n = ys.drop n) :=
  ⟨fun h => by rw [h]; exact ⟨rfl, rfl⟩, fun ⟨h1, h2⟩ => by rw [← List.take_append_drop n xs, h1, h2, List.take_append_drop]⟩

def isRowD : TypeDesc → Bool | .struct _ | .array _ _ => true | _ => false
theorem rowOf_u {t : TypeId} {k : TypeDesc} (hu : P.underlying t = some k) : rowOf P t = some (isRowD k) := by
  unfold rowOf
  rw [hu]
  cases k <;> rfl
theorem rowOf_of_kinds {d : Nat} {t : TypeId} {l : List CK} (h : kindsT P d t = some l) : ∃ b, rowOf P t = some b ∧ (b = false → l.length = 1) := by
  cases d with
  | zero => simp [kindsT] at h
  | succ d =>
    unfold kindsT at h
    unfold rowOf
    cases hu : P.underlying t with
    | none => simp [hu] at h
    | some k =>
      rw [hu] at h
      cases k <;> simp at h ⊢
      all_goals (subst h; rfl)

theorem eqFields_ok {dd : Nat} {g : TypeId → Option (List CK)} (xs ys : List Value) (hg : ∀ t l, g t = some l → EqOk P dd t l ∧ szOf P t = some l.length ∧ ∃ b, rowOf P t = some b ∧ (b = false → l.length = 1)) :
    ∀ (fs : List Field) (off : Nat) (l : List CK), fieldsK g off fs = some l → fits l (xs.drop off) = true → fits l (ys.drop off) = true →
      ∃ r : Bool, (Op.eqFields dd xs.toArray ys.toArray fs).run P w = .ok r w ∧ (r = true ↔ xs.drop off = ys.drop off)
  | [], off, l, h, hx, hy => by
    obtain rfl : [] = l := by simpa [fieldsK] using h
    have e1 := List.eq_nil_of_length_eq_zero (fits_len hx).symm
    have e2 := List.eq_nil_of_length_eq_zero (fits_len hy).symm
    exact ⟨true, by simp [Op.eqFields], by simp [e1, e2]⟩
  | f :: fs, off, l, h, hx, hy => by
    unfold fieldsK at h
    split at h
    · cases h
    · rename_i hn
      have hname : f.name ≠ "_" := fun e => hn (.inl e)
      have hoff : f.offset = off := Classical.byContradiction fun e => hn (.inr e)
      cases hgl : g f.type with
      | none => rw [hgl] at h; cases h
      | some l1 =>
        rw [hgl] at h
        simp only [Option.map_eq_some_iff] at h
        obtain ⟨l2, hl2, rfl⟩ := h
        obtain ⟨hE, hsz, b, hr, hb⟩ := hg _ _ hgl
        obtain ⟨x1, x2⟩ := fits_split hx
        obtain ⟨y1, y2⟩ := fits_split hy
        rw [List.drop_drop] at x2 y2
        have lx := fits_len x1
        have ly := fits_len y1
        simp only [List.length_take, List.length_drop] at lx ly
        have nx : off + l1.length ≤ xs.length ∨ l1.length = 0 := by omega
        have ny : off + l1.length ≤ ys.length ∨ l1.length = 0 := by omega
        have hxl : off + l1.length ≤ xs.length ∨ b = true := by
          rcases nx with h | h
          · exact .inl h
          · cases b
            · have := hb rfl; omega
            · exact .inr rfl
        have hyl : off + l1.length ≤ ys.length ∨ b = true := by
          rcases ny with h | h
          · exact .inl h
          · cases b
            · have := hb rfl; omega
            · exact .inr rfl
        have px : ∃ a, (part f.type xs.toArray off).run P w = .ok a w ∧ shaped P f.type a ((xs.drop off).take l1.length) := by
          rcases hxl with h | rfl
          · exact part_ok w hsz hr hb h
          · refine ⟨.agg ((xs.drop off).take l1.length).toArray, ?_, by simp [shaped, hr]⟩
            simp [part, Sem.run_bind, run_rowOf hr, run_szOf hsz]
        have py : ∃ a, (part f.type ys.toArray off).run P w = .ok a w ∧ shaped P f.type a ((ys.drop off).take l1.length) := by
          rcases hyl with h | rfl
          · exact part_ok w hsz hr hb h
          · refine ⟨.agg ((ys.drop off).take l1.length).toArray, ?_, by simp [shaped, hr]⟩
            simp [part, Sem.run_bind, run_rowOf hr, run_szOf hsz]
        obtain ⟨a, pa, sa⟩ := px
        obtain ⟨c, pc, sc⟩ := py
        obtain ⟨r1, hr1, hi1⟩ := hE w a c _ _ sa sc x1 y1
        obtain ⟨r2, hr2, hi2⟩ := eqFields_ok xs ys hg fs (off + l1.length) l2 hl2 x2 y2
        rw [take_drop_eq (n := l1.length), List.drop_drop, List.drop_drop, ← hi1, ← hi2]
        simp only [Op.eqFields, hname, ne_eq, not_false_eq_true, if_true, hoff, Sem.run_bind, pa, pc, hr1, Result.andThen_ok]
        cases r1
        · exact ⟨false, by simp, by simp⟩
        · exact ⟨r2, by simpa using hr2, by simp⟩

theorem eqItems_ok {dd : Nat} {e : TypeId} {l : List CK} (hE : EqOk P dd e l) (hsz : szOf P e = some l.length) {b : Bool} (hr : rowOf P e = some b) (hb : b = false → l.length = 1) (xs ys : List Value) :
    ∀ (n k : Nat), fits (List.replicate n l).flatten (xs.drop (k * l.length)) = true → fits (List.replicate n l).flatten (ys.drop (k * l.length)) = true →
      ∃ r : Bool, (Op.eqItems dd e l.length xs.toArray ys.toArray (List.range' k n)).run P w = .ok r w ∧ (r = true ↔ xs.drop (k * l.length) = ys.drop (k * l.length))
  | 0, k, hx, hy => by
    have e1 := List.eq_nil_of_length_eq_zero (fits_len hx).symm
    have e2 := List.eq_nil_of_length_eq_zero (fits_len hy).symm
    exact ⟨true, by simp [Op.eqItems], by simp [e1, e2]⟩
  | n + 1, k, hx, hy => by
    rw [List.replicate_succ, List.flatten_cons] at hx hy
    obtain ⟨x1, x2⟩ := fits_split hx
    obtain ⟨y1, y2⟩ := fits_split hy
    rw [List.drop_drop, ← Nat.succ_mul] at x2 y2
    have lx := fits_len x1
    have ly := fits_len y1
    simp only [List.length_take, List.length_drop] at lx ly
    have pp : ∀ zs : List Value, l.length = min l.length (zs.length - k * l.length) → ∃ a, (part e zs.toArray (k * l.length)).run P w = .ok a w ∧ shaped P e a ((zs.drop (k * l.length)).take l.length) := by
      intro zs hz
      cases b with
      | false => exact part_ok w hsz hr hb (by have := hb rfl; omega)
      | true =>
        refine ⟨.agg ((zs.drop (k * l.length)).take l.length).toArray, ?_, by simp [shaped, hr]⟩
        simp [part, Sem.run_bind, run_rowOf hr, run_szOf hsz]
    obtain ⟨a, pa, sa⟩ := pp xs lx
    obtain ⟨c, pc, sc⟩ := pp ys ly
    obtain ⟨r1, hr1, hi1⟩ := hE w a c _ _ sa sc x1 y1
    obtain ⟨r2, hr2, hi2⟩ := eqItems_ok hE hsz hr hb xs ys n (k + 1) x2 y2
    rw [take_drop_eq (n := l.length), List.drop_drop, List.drop_drop, ← Nat.succ_mul, ← hi1, ← hi2, List.range'_succ]
    simp only [Op.eqItems, Sem.run_bind, pa, pc, hr1, Result.andThen_ok]
    cases r1
    · exact ⟨false, by simp, by simp⟩
    · exact ⟨r2, by simpa using hr2, by simp⟩

theorem eq_kinds (d : Nat) : ∀ (m : Nat) (t : TypeId) (l : List CK), kindsT P m t = some l → EqOk P (d + m) t l
  | 0, _, _, h => by simp [kindsT] at h
  | m + 1, t, l, h => by
    intro w x y xs ys hx hy fx fy
    have hh := h
    unfold kindsT at h
    cases hu : P.underlying t with
    | none => simp [hu] at h
    | some k =>
      rw [hu] at h
      unfold shaped at hx hy
      rw [rowOf_u hu] at hx hy
      cases k <;> dsimp only [isRowD] at h hx hy <;> (try simp only [reduceCtorEq, Option.some.injEq] at h)
      case bool =>
        subst h; subst hx; subst hy
        cases x <;> simp [fits, CK.fit] at fx
        cases y <;> simp [fits, CK.fit] at fy
        rename_i p q
        exact ⟨p == q, run_equalIn_bool w (d + m) t p q hu, by simp⟩
      case int =>
        subst h; subst hx; subst hy
        cases x <;> simp [fits, CK.fit] at fx
        cases y <;> simp [fits, CK.fit] at fy
        rename_i kk k1 p k2 q
        subst fx; subst fy
        have hrun := run_equalIn_int (P := P) w (d + m) t kk kk p q hu
        exact ⟨p == q, hrun, by simp⟩
      case string =>
        subst h; subst hx; subst hy
        cases x <;> simp [fits, CK.fit] at fx
        cases y <;> simp [fits, CK.fit] at fy
        rename_i p q
        refine ⟨p.toList == q.toList, run_equalIn_string w (d + m) t p q hu, ?_⟩
        simp only [beq_iff_eq, ByteArray.toList_eq]
        refine ⟨fun h => ?_, fun h => ?_⟩
        · have hd : p.data = q.data := by rw [← Array.toArray_toList (xs := p.data), h]
          have hpq : p = q := by cases p; cases q; simpa using hd
          rw [hpq]
        · have hpq : p = q := by simpa using h
          rw [hpq]
      case array n e =>
        cases hk : kindsT P m e with
        | none => simp [hk] at h
        | some l1 =>
          rw [hk] at h
          simp only [Option.ite_none_right_eq_some, Option.some.injEq] at h
          obtain ⟨⟨h1, h2⟩, rfl⟩ := h
          subst hx; subst hy
          obtain ⟨b, hb1, hb2⟩ := rowOf_of_kinds hk
          have hpe : ∃ i, P.info? e = some i := by
            unfold szOf at h2
            cases hq : P.info? e with
            | none => simp [hq] at h2
            | some i => exact ⟨i, rfl⟩
          obtain ⟨i, hi⟩ := hpe
          have hci : P.cellsOf e = l1.length := by
            simp only [szOf, hi, Option.map_some, Option.some.injEq] at h2
            simp [Program.cellsOf, hi, h2]
          obtain ⟨r, hr, hiff⟩ := eqItems_ok w (eq_kinds d m e l1 hk) h2 hb1 hb2 xs ys n 0 (by simpa using fx) (by simpa using fy)
          refine ⟨r, ?_, by simpa using hiff⟩
          rw [show d + (m + 1) = (d + m) + 1 from rfl, run_equalIn_array w (d + m) xs.toArray ys.toArray hu hi, hci, List.range_eq_range']
          exact hr
      case struct fs =>
        simp only [Option.ite_none_left_eq_some] at h
        obtain ⟨hst, h⟩ := h
        subst hx; subst hy
        have hfs : P.fieldsOf t = fs := by simp [Program.fieldsOf, hu]
        obtain ⟨r, hr, hiff⟩ := eqFields_ok w (dd := d + m) xs ys (fun t' l' ht' => by
          cases hk : kindsT P m t' with
          | none => simp [hk] at ht'
          | some l1 =>
            rw [hk] at ht'
            simp only [Option.ite_none_right_eq_some, Option.some.injEq] at ht'
            obtain ⟨hs, rfl⟩ := ht'
            exact ⟨eq_kinds d m t' l1 hk, hs, rowOf_of_kinds hk⟩) fs.toList 0 l h (by simpa using fx) (by simpa using fy)
        refine ⟨r, ?_, by simpa using hiff⟩
        rw [show d + (m + 1) = (d + m) + 1 from rfl, run_equalIn_struct w (d + m) t _ _ (by rw [hfs]; exact hu) (by simpa using hst), hfs]
        exact hr

variable {a : Act} {W : World} {K : Act → World → Prop} {Q : Exit → Act → World → Prop} {o : Oper}
theorem wp_eql {x y : Operand} {t t' : TypeId} {l : List CK} {xs ys : Array Value} {B : Bool} (ho : o.op = .binOp .eql t x y t') (hx : a.eval x = .agg xs) (hy : a.eval y = .agg ys) (hk : kindsT P 20 t = some l) (hr : rowOf P t = some true) (hg : P.eqGuardType P.depth t = false)
    (fx : fits l xs.toList = true) (fy : fits l ys.toList = true) (hB : B = true ↔ xs = ys) (h : K (a.put o.dst (.bool B)) W) : o.wp P a W K Q := by
  obtain ⟨r, hrun, hiff⟩ := eq_kinds (P := P) 9980 20 t l hk W (.agg xs) (.agg ys) xs.toList ys.toList (by simp [shaped, hr]) (by simp [shaped, hr]) fx fy
  have hrB : r = B := by
    rw [Bool.eq_iff_iff, hiff, hB]
    exact ⟨fun h => by rw [← Array.toArray_toList (xs := xs), h], fun h => by rw [h]⟩
  subst hrB
  unfold Oper.wp execOp
  simp only [ho, hx, hy, Sem.run_bind, run_eqGuard_agg W .eql t x y xs ys hg, Result.andThen_ok, run_eql_struct, hrun]
  exact h
theorem wp_neq {x y : Operand} {t t' : TypeId} {l : List CK} {xs ys : Array Value} {B : Bool} (ho : o.op = .binOp .neq t x y t') (hx : a.eval x = .agg xs) (hy : a.eval y = .agg ys) (hk : kindsT P 20 t = some l) (hr : rowOf P t = some true) (hg : P.eqGuardType P.depth t = false)
    (fx : fits l xs.toList = true) (fy : fits l ys.toList = true) (hB : B = true ↔ xs = ys) (h : K (a.put o.dst (.bool (!B))) W) : o.wp P a W K Q := by
  obtain ⟨r, hrun, hiff⟩ := eq_kinds (P := P) 9980 20 t l hk W (.agg xs) (.agg ys) xs.toList ys.toList (by simp [shaped, hr]) (by simp [shaped, hr]) fx fy
  have hrB : r = B := by
    rw [Bool.eq_iff_iff, hiff, hB]
    exact ⟨fun h => by rw [← Array.toArray_toList (xs := xs), h], fun h => by rw [h]⟩
  subst hrB
  unfold Oper.wp execOp
  simp only [ho, hx, hy, Sem.run_bind, run_eqGuard_agg W .neq t x y xs ys hg, Result.andThen_ok, run_neq_struct, hrun]
  exact h
end
end Go.Proofs.Ytmkigejhgpoleaa
