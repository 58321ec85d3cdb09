/-
  A body, a cap as an argument: its cells are a string and sixteen ints; three ints.
-/
import Derived.Test.YtklppgkolcpbbaaLaw
import Derived.Test.YtklppgkolcpbbaaBodyW6
namespace Go.Proofs.Ytklppgkolcpbbaa
set_option linter.unusedSimpArgs false
set_option linter.unusedVariables false
open Go Go.RowKit Go.ChangeShapes Go.WideShapes Go.ChangeAt

section
variable {H : Type} {enc : TypeId × Value → H} {P : Program} {w : World} {base : Nat} {spare : Nat → Bool} {held : Bool} {fuel : Nat} {t : TypeId} {cs : List Value} {x : Option (DataW H × List MemPlace)}
theorem take_one {off : Nat} {v : Value} (h : (cs.drop off).take 1 = [v]) : cs[off]? = some v := by
  have : ((cs.drop off).take 1)[0]? = some v := by rw [h]; rfl
  simpa [List.getElem?_take, List.getElem?_drop] using this
theorem at_int {off : Nat} (hu : P.underlying t = some (.int .i64)) {y : DataW H × List MemPlace} (h : DataW.trod enc P w base spare held fuel t ((cs.drop off).take 1) = some y) : ∃ n, cs[off]? = some (.int .i64 n) := by
  obtain ⟨n, e, _⟩ := DataW.trod_int hu h
  exact ⟨n, take_one e⟩
theorem at_str {off : Nat} (hu : P.underlying t = some .string) {y : DataW H × List MemPlace} (h : DataW.trod enc P w base spare held fuel t ((cs.drop off).take 1) = some y) : ∃ s : ByteArray, cs[off]? = some (.string s) ∧ s.size ≤ maxLen := by
  obtain ⟨n, e, _, hm⟩ := DataW.trod_string hu h
  exact ⟨n, take_one e, hm⟩
theorem at_three {off : Nat} {e : TypeId} (hu : P.underlying t = some (.array 3 e)) (he : P.underlying e = some (.int .i64)) (hc : P.cellsOf e = 1) {y : DataW H × List MemPlace} (h : DataW.trod enc P w base spare held fuel t ((cs.drop off).take 3) = some y) :
    (∃ n, cs[off]? = some (.int .i64 n)) ∧ (∃ n, cs[off + 1]? = some (.int .i64 n)) ∧ (∃ n, cs[off + 2]? = some (.int .i64 n)) := by
  obtain ⟨xs, m, _, _, _, hl, hx⟩ := DataW.trod_array hu h
  rw [hc] at hx
  have key : ∀ i, i < 3 → ∃ n, cs[off + i]? = some (.int .i64 n) := fun i hi => by
    have h1 := hx i hi
    rw [List.getElem?_eq_getElem (by omega), Nat.mul_one] at h1
    obtain ⟨n, e⟩ := at_int he h1
    refine ⟨n, ?_⟩
    simpa [List.getElem?_take, List.getElem?_drop, hi] using e
  exact ⟨key 0 (by omega), key 1 (by omega), key 2 (by omega)⟩
end
section
variable {H : Type} {enc : TypeId × Value → H} {w : World} {base : Nat} {sp : Nat → Bool} {held : Bool} {r : Reach} {b0 : Nat} {v : Value} {d : DataW H} {ps : List MemPlace}
set_option maxRecDepth 20000 in
theorem open_body (hval : Value.okWide Try.prog w r b0 24 v) (hd : DataW.Trod enc Try.prog w base sp held 24 v d ps) : ∃ b : Bod.Bd, v = valB b ∧ b.name.size ≤ maxLen := by
  obtain ⟨cs, rfl, hsz⟩ := okWide_struct Try.underlying24 hval
  have hC : Try.prog.cellsOf 24 = 17 := by kernel_rfl
  rw [hC] at hsz
  obtain ⟨fuel, hf⟩ := hd
  obtain ⟨xs, n, _, _, _, hl, hx⟩ := DataW.trod_struct Try.underlying24 hf
  have hcs : (Value.agg cs).cells.toList = cs.toList := rfl
  rw [hcs] at hx
  clear hcs hf
  have hl' : xs.length = 11 := hl
  have g0 : DataW.trod enc Try.prog w base sp held n 9 ((cs.toList.drop 0).take 1) = some (xs[0]'(by omega)) := (hx 0 _ rfl).trans (List.getElem?_eq_getElem _)
  obtain ⟨v0, e0, hm⟩ := at_str Try.underlying9 g0
  clear g0
  have g1 : DataW.trod enc Try.prog w base sp held n 3 ((cs.toList.drop 1).take 1) = some (xs[1]'(by omega)) := (hx 1 _ rfl).trans (List.getElem?_eq_getElem _)
  obtain ⟨v1, e1⟩ := at_int Try.underlying3 g1
  clear g1
  have g2 : DataW.trod enc Try.prog w base sp held n 3 ((cs.toList.drop 2).take 1) = some (xs[2]'(by omega)) := (hx 2 _ rfl).trans (List.getElem?_eq_getElem _)
  obtain ⟨v2, e2⟩ := at_int Try.underlying3 g2
  clear g2
  have g3 : DataW.trod enc Try.prog w base sp held n 3 ((cs.toList.drop 3).take 1) = some (xs[3]'(by omega)) := (hx 3 _ rfl).trans (List.getElem?_eq_getElem _)
  obtain ⟨v3, e3⟩ := at_int Try.underlying3 g3
  clear g3
  have g4 : DataW.trod enc Try.prog w base sp held n 3 ((cs.toList.drop 4).take 1) = some (xs[4]'(by omega)) := (hx 4 _ rfl).trans (List.getElem?_eq_getElem _)
  obtain ⟨v4, e4⟩ := at_int Try.underlying3 g4
  clear g4
  have g5 : DataW.trod enc Try.prog w base sp held n 3 ((cs.toList.drop 5).take 1) = some (xs[5]'(by omega)) := (hx 5 _ rfl).trans (List.getElem?_eq_getElem _)
  obtain ⟨v5, e5⟩ := at_int Try.underlying3 g5
  clear g5
  have g6 : DataW.trod enc Try.prog w base sp held n 22 ((cs.toList.drop 6).take 3) = some (xs[6]'(by omega)) := (hx 6 _ rfl).trans (List.getElem?_eq_getElem _)
  obtain ⟨⟨v6, e6⟩, ⟨v7, e7⟩, ⟨v8, e8⟩⟩ := at_three Try.underlying22 Try.underlying3 (by kernel_rfl) g6
  clear g6
  have g7 : DataW.trod enc Try.prog w base sp held n 22 ((cs.toList.drop 9).take 3) = some (xs[7]'(by omega)) := (hx 7 _ rfl).trans (List.getElem?_eq_getElem _)
  obtain ⟨⟨v9, e9⟩, ⟨v10, e10⟩, ⟨v11, e11⟩⟩ := at_three Try.underlying22 Try.underlying3 (by kernel_rfl) g7
  clear g7
  have g8 : DataW.trod enc Try.prog w base sp held n 22 ((cs.toList.drop 12).take 3) = some (xs[8]'(by omega)) := (hx 8 _ rfl).trans (List.getElem?_eq_getElem _)
  obtain ⟨⟨v12, e12⟩, ⟨v13, e13⟩, ⟨v14, e14⟩⟩ := at_three Try.underlying22 Try.underlying3 (by kernel_rfl) g8
  clear g8
  have g9 : DataW.trod enc Try.prog w base sp held n 3 ((cs.toList.drop 15).take 1) = some (xs[9]'(by omega)) := (hx 9 _ rfl).trans (List.getElem?_eq_getElem _)
  obtain ⟨v15, e15⟩ := at_int Try.underlying3 g9
  clear g9
  have g10 : DataW.trod enc Try.prog w base sp held n 3 ((cs.toList.drop 16).take 1) = some (xs[10]'(by omega)) := (hx 10 _ rfl).trans (List.getElem?_eq_getElem _)
  obtain ⟨v16, e16⟩ := at_int Try.underlying3 g10
  clear g10
  have : cs = cellsB ⟨v0, v1, v2, v3, v4, v5, v6, v7, v8, v9, v10, v11, v12, v13, v14, v15, v16⟩ := by
    apply Array.ext'
    apply List.ext_getElem?
    intro i
    by_cases hi : i < 17
    · have hc : i = 0 ∨ i = 1 ∨ i = 2 ∨ i = 3 ∨ i = 4 ∨ i = 5 ∨ i = 6 ∨ i = 7 ∨ i = 8 ∨ i = 9 ∨ i = 10 ∨ i = 11 ∨ i = 12 ∨ i = 13 ∨ i = 14 ∨ i = 15 ∨ i = 16 := by omega
      rcases hc with rfl | rfl | rfl | rfl | rfl | rfl | rfl | rfl | rfl | rfl | rfl | rfl | rfl | rfl | rfl | rfl | rfl
      · exact e0
      · exact e1
      · exact e2
      · exact e3
      · exact e4
      · exact e5
      · exact e6
      · exact e7
      · exact e8
      · exact e9
      · exact e10
      · exact e11
      · exact e12
      · exact e13
      · exact e14
      · exact e15
      · exact e16
    · rw [List.getElem?_eq_none (by simp; omega), List.getElem?_eq_none (by show 17 ≤ i; omega)]
  subst this
  exact ⟨_, rfl, hm⟩
theorem open_cap (hval : Value.okWide Try.prog w r b0 26 v) (hd : DataW.Trod enc Try.prog w base sp held 26 v d ps) : ∃ c : Bod.Cp, v = valC c := by
  obtain ⟨cs, rfl, hsz⟩ := okWide_struct Try.underlying26 hval
  have hC : Try.prog.cellsOf 26 = 3 := by kernel_rfl
  rw [hC] at hsz
  obtain ⟨fuel, hf⟩ := hd
  obtain ⟨xs, n, _, _, _, hl, hx⟩ := DataW.trod_struct Try.underlying26 hf
  have hcs : (Value.agg cs).cells.toList = cs.toList := rfl
  rw [hcs] at hx
  clear hcs hf
  have hl' : xs.length = 3 := hl
  have g0 : DataW.trod enc Try.prog w base sp held n 3 ((cs.toList.drop 0).take 1) = some (xs[0]'(by omega)) := (hx 0 _ rfl).trans (List.getElem?_eq_getElem _)
  obtain ⟨v0, e0⟩ := at_int Try.underlying3 g0
  have g1 : DataW.trod enc Try.prog w base sp held n 3 ((cs.toList.drop 1).take 1) = some (xs[1]'(by omega)) := (hx 1 _ rfl).trans (List.getElem?_eq_getElem _)
  obtain ⟨v1, e1⟩ := at_int Try.underlying3 g1
  have g2 : DataW.trod enc Try.prog w base sp held n 3 ((cs.toList.drop 2).take 1) = some (xs[2]'(by omega)) := (hx 2 _ rfl).trans (List.getElem?_eq_getElem _)
  obtain ⟨v2, e2⟩ := at_int Try.underlying3 g2
  have : cs = cellsC ⟨v0, v1, v2⟩ := by
    apply Array.ext'
    apply List.ext_getElem?
    intro i
    by_cases hi : i < 3
    · have hc : i = 0 ∨ i = 1 ∨ i = 2 := by omega
      rcases hc with rfl | rfl | rfl
      · exact e0
      · exact e1
      · exact e2
    · rw [List.getElem?_eq_none (by simp; omega), List.getElem?_eq_none (by show 3 ≤ i; omega)]
  subst this
  exact ⟨_, rfl⟩
end
end Go.Proofs.Ytklppgkolcpbbaa
