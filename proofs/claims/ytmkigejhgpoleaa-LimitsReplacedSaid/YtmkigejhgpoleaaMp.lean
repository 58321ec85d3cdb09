/-
  Laws: maps of one's own whose keys are integers.
-/
import Derived.Test.YtmkigejhgpoleaaOps6
import Derived.ChangeMaps5
namespace Go.Proofs.Ytmkigejhgpoleaa
set_option linter.unusedSimpArgs false
set_option linter.unusedVariables false
open Go Go.RowKit
/-- an element out of its cells -/
def elV (ag : Bool) (cs : List Value) : Value := if ag then .agg cs.toArray else cs.headD undef
/-- an entry's cells -/
def mCells (K : IntKind) (e : Int × List Value) : List Value := .int K e.1 :: e.2
theorem mCells_len {K : IntKind} {k : Nat} {l : List (Int × List Value)} (hl : ∀ e ∈ l, e.2.length = k) : (l.flatMap (mCells K)).length = l.length * (k + 1) := by
  induction l with
  | nil => simp
  | cons e l ih =>
    rw [List.flatMap_cons, List.length_append, ih fun x hx => hl x (List.mem_cons_of_mem _ hx), List.length_cons, Nat.add_mul]
    simp only [mCells, List.length_cons, hl e (List.mem_cons_self ..)]
    omega
def entriesOf (K : IntKind) (ag : Bool) : Nat → List (Int × List Value) → List MapEntry
  | _, [] => []
  | i, e :: l => ⟨.int K e.1, elV ag e.2, i⟩ :: entriesOf K ag (i + 1) l
theorem mapEs_eq {K : IntKind} {k : Nat} {ag : Bool} (hk : ag = true ∨ 0 < k) : ∀ {l : List (Int × List Value)} {i : Nat}, (∀ e ∈ l, e.2.length = k) → mapEs k ag l.length i (l.flatMap (mCells K)) = entriesOf K ag i l
  | [], _, _ => rfl
  | e :: l, i, hl => by
    have he := hl e (List.mem_cons_self ..)
    have ih := mapEs_eq (K := K) hk (l := l) (i := i + 1) fun x hx => hl x (List.mem_cons_of_mem _ hx)
    unfold mapEs entriesOf
    rw [List.length_cons]
    simp only [List.flatMap_cons, mCells, List.cons_append, List.headD_cons, List.drop_succ_cons, List.drop_zero]
    have h1 : (e.2 ++ l.flatMap (mCells K)).take k = e.2 := List.take_left' he
    have h2 : (e.2 ++ l.flatMap (mCells K)).drop k = l.flatMap (mCells K) := List.drop_left' he
    rw [h2]
    refine congr (congrArg List.cons ?_) ih
    congr 1
    unfold elV
    cases ag
    · simp only [Bool.false_eq_true, if_false]
      cases hc : e.2 with
      | nil =>
        rw [hc] at he
        simp only [List.length_nil] at he
        rcases hk with h | h
        · cases h
        · omega
      | cons a r => simp [List.getD_eq_getElem?_getD]
    · simp only [if_true, h1]
theorem mapObj_eq {K : IntKind} {k : Nat} {ag : Bool} (hk : ag = true ∨ 0 < k) {l : List (Int × List Value)} (hl : ∀ e ∈ l, e.2.length = k) : mapObj k ag (l.flatMap (mCells K)).toArray = .map (entriesOf K ag 0 l).toArray l.length := by
  have hs : (l.flatMap (mCells K)).toArray.size / (k + 1) = l.length := by
    rw [List.size_toArray, mCells_len hl, Nat.mul_div_cancel _ (by omega)]
  unfold mapObj
  rw [hs, mapEs_eq hk hl]
/-- what a key finds -/
def getM (l : List (Int × List Value)) (i : Int) : Option (List Value) := (l.find? fun e => e.1 == i).map (·.2)
/-- a store under a key -/
def putM : List (Int × List Value) → Int → List Value → List (Int × List Value)
  | [], i, xs => [(i, xs)]
  | e :: l, i, xs => if e.1 = i then (i, xs) :: l else e :: putM l i xs
theorem find_none {K : IntKind} {ag : Bool} {i : Int} : ∀ {l : List (Int × List Value)} {j n : Nat}, (l.find? fun e => e.1 == i) = none → Instr.findNow (.int K) (.int K i) (entriesOf K ag j l) n = some none
  | [], _, _, _ => rfl
  | e :: l, j, n, h => by
    rw [List.find?_cons] at h
    split at h
    · cases h
    · rename_i hne
      unfold entriesOf Instr.findNow
      have : Instr.sameNow (.int K) (.int K i) (.int K e.1) = some false := by
        simp only [Instr.sameNow, if_true]
        have : ¬ e.1 = i := by simpa using hne
        congr 1
        simp only [beq_eq_false_iff_ne]
        exact fun h => this h.symm
      simp only [this]
      exact find_none h
theorem find_some {K : IntKind} {ag : Bool} {i : Int} : ∀ {l : List (Int × List Value)} {j n : Nat} {cs : List Value}, getM l i = some cs → ∃ m, Instr.findNow (.int K) (.int K i) (entriesOf K ag j l) n = some (some (n + m, elV ag cs)) ∧ (entriesOf K ag j l)[m]? = some ⟨.int K i, elV ag cs, j + m⟩ ∧ ∀ xs, entriesOf K ag j (putM l i xs) = (entriesOf K ag j l).set m ⟨.int K i, elV ag xs, j + m⟩
  | [], _, _, _, h => by simp [getM] at h
  | e :: l, j, n, cs, h => by
    unfold getM at h
    rw [List.find?_cons] at h
    split at h
    · rename_i he
      have he : e.1 = i := by simpa using he
      simp only [Option.map_some, Option.some.injEq] at h
      subst h
      subst he
      refine ⟨0, ?_, ?_, fun xs => ?_⟩
      · unfold entriesOf Instr.findNow
        simp [Instr.sameNow]
      · unfold entriesOf; simp
      · unfold putM
        rw [if_pos rfl]
        simp [entriesOf]
    · rename_i hne
      have hne' : ¬ e.1 = i := by simpa using hne
      obtain ⟨m, h1, h2, h3⟩ := find_some (K := K) (ag := ag) (j := j + 1) (n := n + 1) (cs := cs) h
      refine ⟨m + 1, ?_, ?_, fun xs => ?_⟩
      · unfold entriesOf Instr.findNow
        have : Instr.sameNow (.int K) (.int K i) (.int K e.1) = some false := by
          simp only [Instr.sameNow, if_true]
          congr 1
          simp only [beq_eq_false_iff_ne]
          exact fun h => hne' h.symm
        simp only [this, h1]
        congr 3
        omega
      · unfold entriesOf
        rw [List.getElem?_cons_succ, h2]
        congr 2
        omega
      · unfold putM
        rw [if_neg hne']
        simp only [entriesOf, h3, List.set_cons_succ]
        congr 3
        omega
theorem put_none {K : IntKind} {ag : Bool} {i : Int} {xs : List Value} : ∀ {l : List (Int × List Value)} {j : Nat}, getM l i = none → entriesOf K ag j (putM l i xs) = entriesOf K ag j l ++ [⟨.int K i, elV ag xs, j + l.length⟩]
  | [], j, _ => by simp [putM, entriesOf]
  | e :: l, j, h => by
    unfold getM at h
    rw [List.find?_cons] at h
    split at h
    · cases h
    · rename_i hne
      have hne' : ¬ e.1 = i := by simpa using hne
      unfold putM
      rw [if_neg hne']
      have := put_none (K := K) (ag := ag) (i := i) (xs := xs) (l := l) (j := j + 1) h
      simp only [entriesOf, this, List.cons_append, List.length_cons]
      rw [show j + 1 + l.length = j + (l.length + 1) by omega]
theorem putM_len {i : Int} {xs : List Value} : ∀ {l : List (Int × List Value)}, (putM l i xs).length = if (getM l i).isSome then l.length else l.length + 1
  | [] => rfl
  | e :: l => by
    unfold putM getM
    rw [List.find?_cons]
    by_cases h : e.1 = i
    · simp [h]
    · have ih := putM_len (i := i) (xs := xs) (l := l)
      unfold getM at ih
      simp only [h, if_false, List.length_cons, ih, beq_iff_eq]
      rw [show (e.1 == i) = false by simpa using h]
      split <;> simp_all
theorem putM_all {k : Nat} {i : Int} {xs : List Value} (hx : xs.length = k) : ∀ {l : List (Int × List Value)}, (∀ e ∈ l, e.2.length = k) → ∀ e ∈ putM l i xs, e.2.length = k
  | [], _, e, he => by
    obtain rfl : e = (i, xs) := by simpa [putM] using he
    exact hx
  | a :: l, hl, e, he => by
    unfold putM at he
    split at he
    · rcases List.mem_cons.1 he with rfl | he
      · exact hx
      · exact hl e (List.mem_cons_of_mem _ he)
    · rcases List.mem_cons.1 he with rfl | he
      · exact hl e (List.mem_cons_self ..)
      · exact putM_all hx (fun x hx => hl x (List.mem_cons_of_mem _ hx)) e he
section
variable {P : Program} {W : World}
theorem run_mapLookup {t kt e : TypeId} {K : IntKind} {k : Nat} {ag ok : Bool} {z : Value} {b : Nat} {l : List (Int × List Value)} {i : Int} (hu : P.underlying t = some (.map kt e)) (hkt : P.underlying kt = some (.int K)) (hz : zeroOf P e = some z) (hk : ag = true ∨ 0 < k) (hl : ∀ e ∈ l, e.2.length = k) (hb : W.heap[b]? = some (mapObj k ag (l.flatMap (mCells K)).toArray)) :
    (Instr.lookup t (.map (some b)) (.int K i) ok).run P W = .ok (match getM l i with
      | some cs => if ok then .tuple #[elV ag cs, .bool true] else elV ag cs
      | none => if ok then .tuple #[z, .bool false] else z) W := by
  rw [mapObj_eq hk hl] at hb
  have hkk : MapKept.IsKey (.int K) (.int K i) := rfl
  cases hg : getM l i with
  | none =>
    have hf : (l.find? fun e => e.1 == i) = none := by
      unfold getM at hg
      simpa using hg
    have h1 := MapKept.run_findKey (w := W) hkt (find_none (K := K) (ag := ag) (j := 0) (n := 0) hf)
    cases ok <;> simp [Instr.lookup, run_underlying hu, MapKept.run_getObj_map hb, MapKept.run_checkKey hkt hkk, h1, run_zeroOf hz, Result.andThen]
  | some cs =>
    obtain ⟨m, h1, h2, h3⟩ := find_some (K := K) (ag := ag) (j := 0) (n := 0) hg
    have h1 := MapKept.run_findKey (w := W) hkt h1
    cases ok <;> simp [Instr.lookup, run_underlying hu, MapKept.run_getObj_map hb, MapKept.run_checkKey hkt hkk, h1, Result.andThen]
theorem run_mapStore {t kt e : TypeId} {K : IntKind} {k : Nat} {ag : Bool} {b : Nat} {l : List (Int × List Value)} {i : Int} {xs : List Value} (hu : P.underlying t = some (.map kt e)) (hkt : P.underlying kt = some (.int K)) (hk : ag = true ∨ 0 < k) (hl : ∀ e ∈ l, e.2.length = k) (hx : xs.length = k) (hb : W.heap[b]? = some (mapObj k ag (l.flatMap (mCells K)).toArray)) :
    (Instr.mapUpdate t (.map (some b)) (.int K i) (elV ag xs)).run P W = .ok () (ChangeMaps.setBlock W b (mapObj k ag ((putM l i xs).flatMap (mCells K)).toArray)) := by
  rw [mapObj_eq hk hl] at hb
  rw [mapObj_eq hk (putM_all hx hl)]
  have hkk : MapKept.IsKey (.int K) (.int K i) := rfl
  cases hg : getM l i with
  | none =>
    have hf : (l.find? fun e => e.1 == i) = none := by
      unfold getM at hg
      simpa using hg
    have h1 := MapKept.run_findKey (w := W) hkt (find_none (K := K) (ag := ag) (j := 0) (n := 0) hf)
    have h2 := put_none (K := K) (ag := ag) (xs := xs) (j := 0) hg
    have h3 := putM_len (i := i) (xs := xs) (l := l)
    rw [hg] at h3
    simp only [Option.isSome_none, Bool.false_eq_true, if_false] at h3
    rw [h2, h3]
    have e : (entriesOf K ag 0 l ++ [(⟨.int K i, elV ag xs, 0 + l.length⟩ : MapEntry)]).toArray = (entriesOf K ag 0 l).toArray.push (⟨.int K i, elV ag xs, l.length⟩ : MapEntry) := by simp
    rw [e]
    simp [Instr.mapUpdate, run_underlying hu, MapKept.run_getObj_map hb, MapKept.run_checkKey hkt hkk, h1, MapKept.run_setObj_map _ hb, ChangeMaps.setBlock, Result.andThen]
  | some cs =>
    obtain ⟨m, h1, h2, h3⟩ := find_some (K := K) (ag := ag) (j := 0) (n := 0) hg
    have h1 := MapKept.run_findKey (w := W) hkt h1
    have h4 := putM_len (i := i) (xs := xs) (l := l)
    rw [hg] at h4
    simp only [Option.isSome_some, if_true] at h4
    rw [h3, h4]
    simp only [Nat.zero_add] at h1 h2 ⊢
    have e := ChangeMaps.modify_eq_set (fun e : MapEntry => (⟨.int K i, elV ag xs, e.born⟩ : MapEntry)) _ _ _ h2
    simp only at e
    rw [← e]
    simp [Instr.mapUpdate, run_underlying hu, MapKept.run_getObj_map hb, MapKept.run_checkKey hkt hkk, h1, h2, MapKept.run_keyThatStays hkk, MapKept.run_setObj_map _ hb, ChangeMaps.setBlock, Result.andThen]
end
end Go.Proofs.Ytmkigejhgpoleaa
