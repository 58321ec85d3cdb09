/-
  Caps as an argument: a slice of them.
-/
import Derived.Test.YtklppgkolcpbbaaBodyOpen
import Derived.DataElems
namespace Go.Proofs.Ytklppgkolcpbbaa
set_option linter.unusedSimpArgs false
set_option linter.unusedVariables false
open Go Go.RowKit Go.ChangeShapes Go.WideShapes Go.ChangeAt
section
variable {H : Type} {enc : TypeId × Value → H} {w : World} {base : Nat} {sp : Nat → Bool} {held : Bool} {r : Reach} {b0 : Nat} {v : Value} {d : DataW H} {ps : List MemPlace}
theorem cap_cells {n : Nat} {cs : List Value} {y : DataW H × List MemPlace} (hf : DataW.trod enc Try.prog w base sp held n 26 cs = some y) : ∃ c : Bod.Cp, cs = (cellsC c).toList := by
  obtain ⟨xs, n, _, _, hlen, hl, hx⟩ := DataW.trod_struct Try.underlying26 hf
  have hC : Try.prog.cellsOf 26 = 3 := by kernel_rfl
  rw [hC] at hlen
  have hl' : xs.length = 3 := hl
  have g0 : DataW.trod enc Try.prog w base sp held n 3 ((cs.drop 0).take 1) = some (xs[0]'(by omega)) := (hx 0 _ rfl).trans (List.getElem?_eq_getElem _)
  obtain ⟨v0, e0⟩ := at_int Try.underlying3 g0
  have g1 : DataW.trod enc Try.prog w base sp held n 3 ((cs.drop 1).take 1) = some (xs[1]'(by omega)) := (hx 1 _ rfl).trans (List.getElem?_eq_getElem _)
  obtain ⟨v1, e1⟩ := at_int Try.underlying3 g1
  have g2 : DataW.trod enc Try.prog w base sp held n 3 ((cs.drop 2).take 1) = some (xs[2]'(by omega)) := (hx 2 _ rfl).trans (List.getElem?_eq_getElem _)
  obtain ⟨v2, e2⟩ := at_int Try.underlying3 g2
  refine ⟨⟨v0, v1, v2⟩, ?_⟩
  apply List.ext_getElem?
  intro i
  by_cases hi : i < 3
  · have hc : i = 0 ∨ i = 1 ∨ i = 2 := by omega
    rcases hc with rfl | rfl | rfl
    · exact e0
    · exact e1
    · exact e2
  · rw [List.getElem?_eq_none (by omega), List.getElem?_eq_none (by show 3 ≤ i; omega)]
theorem caps_of (a : Addr) : ∀ (len : Nat), (∀ i, i < len → ∃ c : Bod.Cp, w.cells? base (a.add (i * 3)) 3 = some (cellsC c).toList) →
    ∃ l : List Bod.Cp, l.length = len ∧ ∀ i c, l[i]? = some c → w.cells? base (a.add (i * 3)) 3 = some (cellsC c).toList
  | 0, _ => ⟨[], rfl, by simp⟩
  | len + 1, h => by
    obtain ⟨l, hl, hx⟩ := caps_of a len (fun i hi => h i (by omega))
    obtain ⟨c, hc⟩ := h len (by omega)
    refine ⟨l ++ [c], by simp [hl], fun i c' hc' => ?_⟩
    rw [List.getElem?_append] at hc'
    split at hc'
    · exact hx i c' hc'
    · have : i - l.length = 0 := by
        rcases Nat.eq_zero_or_pos (i - l.length) with h0 | h0
        · exact h0
        · rw [List.getElem?_eq_none (by simp; omega)] at hc'; cases hc'
      rw [this] at hc'
      obtain rfl : c = c' := by simpa using hc'
      obtain rfl : i = len := by omega
      exact hc
theorem open_caps (hval : Value.okWide Try.prog w r b0 34 v) (hd : DataW.Trod enc Try.prog w base sp held 34 v d ps) :
    ∃ (A : Option Addr) (n cap : Nat) (l : List Bod.Cp), v = .slice A n cap ∧ Rd w 3 A n (capsL l) ∧ n ≤ maxLen := by
  obtain ⟨A, n, cap, rfl⟩ := okWide_slice Try.underlying34 hval
  obtain ⟨fuel, hf⟩ := hd
  rcases DataW.trod_slice Try.underlying34 hf with ⟨he, _⟩ | ⟨a, len, cap', elems, rest, m, _, he, _, _, hlc, hcm, hel, hcell, _, _⟩
  · simp [Value.cells] at he
    obtain ⟨rfl, rfl, rfl⟩ := he
    exact ⟨none, 0, 0, [], rfl, Rd.none_, by omega⟩
  · simp [Value.cells] at he
    obtain ⟨rfl, rfl, rfl⟩ := he
    have hC : Try.prog.cellsOf 26 = 3 := by kernel_rfl
    rw [hC] at hcell
    obtain ⟨l, hl, hx⟩ := caps_of (w := w) (base := base) a n fun i hi => by
      have h1 := hcell i hi
      rw [List.getElem?_eq_getElem (by omega)] at h1
      cases hq : w.cells? base (a.add (i * 3)) 3 with
      | none => rw [hq] at h1; simp at h1
      | some cs =>
        rw [hq] at h1
        obtain ⟨c, rfl⟩ := cap_cells (by simpa using h1)
        exact ⟨c, rfl⟩
    refine ⟨some a, n, cap, l, rfl, ⟨by rw [capsL_len, hl], fun h0 => ⟨a, rfl, ?_, fun j u hu => ?_⟩⟩, by omega⟩
    · obtain ⟨c, hc⟩ : ∃ c, l[0]? = some c := ⟨_, List.getElem?_eq_getElem (by omega)⟩
      have := World.cells?_block (hx 0 c hc) (by omega)
      rwa [block_of_add] at this
    · have hj : j < n * 3 := by
        have := (List.getElem?_eq_some_iff.1 hu).1
        rwa [capsL_len, hl] at this
      obtain ⟨c, hc⟩ : ∃ c, l[j / 3]? = some c := ⟨_, List.getElem?_eq_getElem (by omega)⟩
      have hw := hx _ c hc
      have h3 := capsL_elem hc
      have h4 : (cellsC c).toList[j % 3]? = some u := by
        rw [← h3, List.getElem?_take, if_pos (by omega), List.getElem?_drop, show j / 3 * 3 + j % 3 = j by omega]
        exact hu
      obtain ⟨_, _, h5⟩ := World.cells?_some hw
      have h6 := (h5 (j % 3) (by omega)).trans h4
      have h7 : (a.add (j / 3 * 3)).add (j % 3) = a.add j := by rw [Addr.add_add, show j / 3 * 3 + j % 3 = j by omega]
      rw [h7] at h6
      exact h6
end
end Go.Proofs.Ytklppgkolcpbbaa
