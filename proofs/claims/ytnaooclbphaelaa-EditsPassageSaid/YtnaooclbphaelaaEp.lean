/-
  Signs, edits and ratios as arguments: what their cells are.
-/
import Derived.Test.YtnaooclbphaelaaLaw
import Derived.Test.YtnaooclbphaelaaEm
import Derived.DataElems
namespace Go.Proofs.Ytnaooclbphaelaa
set_option linter.unusedSimpArgs false
set_option linter.unusedVariables false
set_option maxRecDepth 20000
open Go Go.RowKit Go.ChangeShapes Go.WideShapes Go.ChangeAt
theorem max_eq : maxLen = 9223372036854775807 := by unfold maxLen; rfl
section
variable {H : Type} {enc : TypeId × Value → H} {P : Program} {w : World} {base : Nat} {spare : Nat → Bool} {held : Bool} {fuel : Nat} {t : TypeId} {cs : List Value}
theorem take_at {off : Nat} {v : Value} (h : (cs.drop off).take 1 = [v]) : cs[off]? = some v := by
  have : ((cs.drop off).take 1)[0]? = some v := by rw [h]; rfl
  simpa [List.getElem?_take, List.getElem?_drop] using this
theorem int_at {off : Nat} (hu : P.underlying t = some (.int .i64)) {y : DataW H × List MemPlace} (h : DataW.trod enc P w base spare held fuel t ((cs.drop off).take 1) = some y) : ∃ n, cs[off]? = some (.int .i64 n) := by
  obtain ⟨n, e, _⟩ := DataW.trod_int hu h
  exact ⟨n, take_at e⟩
theorem ints2_at {off : Nat} {m k : Int} (h : (cs.drop off).take 2 = [.int .i64 m, .int .i64 k]) : cs[off]? = some (.int .i64 m) ∧ cs[off + 1]? = some (.int .i64 k) := by
  have h0 : ((cs.drop off).take 2)[0]? = some (.int .i64 m) := by rw [h]; rfl
  have h1 : ((cs.drop off).take 2)[1]? = some (.int .i64 k) := by rw [h]; rfl
  simp [List.getElem?_take, List.getElem?_drop] at h0 h1
  exact ⟨h0, h1⟩
end
section
variable {H : Type} {enc : TypeId × Value → H} {w : World} {base : Nat} {sp : Nat → Bool} {held : Bool} {r : Reach} {b0 : Nat} {v : Value} {d : DataW H} {ps : List MemPlace}
theorem ratio_cells {n : Nat} {cs : List Value} {y : DataW H × List MemPlace} (hf : DataW.trod enc Try.prog w base sp held n 24 cs = some y) : ∃ m k : Int, cs = [.int .i64 m, .int .i64 k] := by
  obtain ⟨xs, n, _, _, hlen, hl, hx⟩ := DataW.trod_struct Try.underlying24 hf
  have hC : Try.prog.cellsOf 24 = 2 := by kernel_rfl
  rw [hC] at hlen
  have hl' : xs.length = 2 := hl
  have g0 : DataW.trod enc Try.prog w base sp held n 3 ((cs.drop 0).take 1) = some (xs[0]'(by omega)) := (hx 0 _ rfl).trans (List.getElem?_eq_getElem _)
  obtain ⟨v0, e0⟩ := int_at Try.underlying3 g0
  have g1 : DataW.trod enc Try.prog w base sp held n 3 ((cs.drop 1).take 1) = some (xs[1]'(by omega)) := (hx 1 _ rfl).trans (List.getElem?_eq_getElem _)
  obtain ⟨v1, e1⟩ := int_at Try.underlying3 g1
  refine ⟨v0, v1, ?_⟩
  apply List.ext_getElem?
  intro i
  by_cases hi : i < 2
  · have hc : i = 0 ∨ i = 1 := by omega
    rcases hc with rfl | rfl
    · exact e0
    · exact e1
  · rw [List.getElem?_eq_none (by omega), List.getElem?_eq_none (by show 2 ≤ i; omega)]
theorem sign_cells {n : Nat} {cs : List Value} {y : DataW H × List MemPlace} (hf : DataW.trod enc Try.prog w base sp held n 26 cs = some y) : ∃ s : Sg, cs = cellsSg s := by
  obtain ⟨xs, n, _, _, hlen, hl, hx⟩ := DataW.trod_struct Try.underlying26 hf
  have hC : Try.prog.cellsOf 26 = 14 := by kernel_rfl
  rw [hC] at hlen
  have hl' : xs.length = 12 := hl
  have g0 : DataW.trod enc Try.prog w base sp held n 3 ((cs.drop 0).take 1) = some (xs[0]'(by omega)) := (hx 0 _ rfl).trans (List.getElem?_eq_getElem _)
  obtain ⟨v0, e0⟩ := int_at Try.underlying3 g0
  have g1 : DataW.trod enc Try.prog w base sp held n 3 ((cs.drop 1).take 1) = some (xs[1]'(by omega)) := (hx 1 _ rfl).trans (List.getElem?_eq_getElem _)
  obtain ⟨v1, e1⟩ := int_at Try.underlying3 g1
  have g2 : DataW.trod enc Try.prog w base sp held n 3 ((cs.drop 2).take 1) = some (xs[2]'(by omega)) := (hx 2 _ rfl).trans (List.getElem?_eq_getElem _)
  obtain ⟨v2, e2⟩ := int_at Try.underlying3 g2
  have g3 : DataW.trod enc Try.prog w base sp held n 3 ((cs.drop 3).take 1) = some (xs[3]'(by omega)) := (hx 3 _ rfl).trans (List.getElem?_eq_getElem _)
  obtain ⟨v3, e3⟩ := int_at Try.underlying3 g3
  have g4 : DataW.trod enc Try.prog w base sp held n 3 ((cs.drop 4).take 1) = some (xs[4]'(by omega)) := (hx 4 _ rfl).trans (List.getElem?_eq_getElem _)
  obtain ⟨v4, e4⟩ := int_at Try.underlying3 g4
  have g5 : DataW.trod enc Try.prog w base sp held n 3 ((cs.drop 5).take 1) = some (xs[5]'(by omega)) := (hx 5 _ rfl).trans (List.getElem?_eq_getElem _)
  obtain ⟨v5, e5⟩ := int_at Try.underlying3 g5
  have g6 : DataW.trod enc Try.prog w base sp held n 3 ((cs.drop 6).take 1) = some (xs[6]'(by omega)) := (hx 6 _ rfl).trans (List.getElem?_eq_getElem _)
  obtain ⟨v6, e6⟩ := int_at Try.underlying3 g6
  have g7 : DataW.trod enc Try.prog w base sp held n 3 ((cs.drop 7).take 1) = some (xs[7]'(by omega)) := (hx 7 _ rfl).trans (List.getElem?_eq_getElem _)
  obtain ⟨v7, e7⟩ := int_at Try.underlying3 g7
  have g8 : DataW.trod enc Try.prog w base sp held n 3 ((cs.drop 8).take 1) = some (xs[8]'(by omega)) := (hx 8 _ rfl).trans (List.getElem?_eq_getElem _)
  obtain ⟨v8, e8⟩ := int_at Try.underlying3 g8
  have g9 : DataW.trod enc Try.prog w base sp held n 3 ((cs.drop 9).take 1) = some (xs[9]'(by omega)) := (hx 9 _ rfl).trans (List.getElem?_eq_getElem _)
  obtain ⟨v9, e9⟩ := int_at Try.underlying3 g9
  have g10 : DataW.trod enc Try.prog w base sp held n 24 ((cs.drop 10).take 2) = some (xs[10]'(by omega)) := (hx 10 _ rfl).trans (List.getElem?_eq_getElem _)
  obtain ⟨v10, v11, r10⟩ := ratio_cells g10
  obtain ⟨e10, e11⟩ := ints2_at r10
  have g12 : DataW.trod enc Try.prog w base sp held n 24 ((cs.drop 12).take 2) = some (xs[11]'(by omega)) := (hx 11 _ rfl).trans (List.getElem?_eq_getElem _)
  obtain ⟨v12, v13, r12⟩ := ratio_cells g12
  obtain ⟨e12, e13⟩ := ints2_at r12
  refine ⟨⟨v0, v1, v2, v3, v4, v5, v6, v7, v8, v9, v10, v11, v12, v13⟩, ?_⟩
  apply List.ext_getElem?
  intro i
  by_cases hi : i < 14
  · have hc : i = 0 ∨ i = 1 ∨ i = 2 ∨ i = 3 ∨ i = 4 ∨ i = 5 ∨ i = 6 ∨ i = 7 ∨ i = 8 ∨ i = 9 ∨ i = 10 ∨ i = 11 ∨ i = 12 ∨ i = 13 := by omega
    rcases hc with rfl | rfl | rfl | rfl | rfl | rfl | rfl | rfl | rfl | rfl | rfl | rfl | rfl | rfl
    · exact e0
    · exact e1
    · exact e2
    · exact e3
    · exact e4
    · exact e5
    · exact e6
    · exact e7
    · exact e8
    · exact e9
    · exact e10
    · exact e11
    · exact e12
    · exact e13
  · rw [List.getElem?_eq_none (by omega), List.getElem?_eq_none (by show 14 ≤ i; omega)]
/-- the elements of a slice -/
theorem els_of {β : Type} {f : β → List Value} {Q : β → Prop} {sz : Nat} (a : Addr) : ∀ (len : Nat), (∀ i, i < len → ∃ c : β, Q c ∧ w.cells? base (a.add (i * sz)) sz = some (f c)) →
    ∃ l : List β, l.length = len ∧ (∀ c ∈ l, Q c) ∧ ∀ i c, l[i]? = some c → w.cells? base (a.add (i * sz)) sz = some (f c)
  | 0, _ => ⟨[], rfl, (fun _ h => nomatch h), by simp⟩
  | len + 1, h => by
    obtain ⟨l, hl, hq, hx⟩ := els_of a len (fun i hi => h i (by omega))
    obtain ⟨c, hqc, hc⟩ := h len (by omega)
    refine ⟨l ++ [c], by simp [hl], fun c' hc' => ?_, fun i c' hc' => ?_⟩
    · rcases List.mem_append.1 hc' with h1 | h1
      · exact hq c' h1
      · obtain rfl : c' = c := by simpa using h1
        exact hqc
    · rw [List.getElem?_append] at hc'
      split at hc'
      · exact hx i c' hc'
      · have : i - l.length = 0 := by
          rcases Nat.eq_zero_or_pos (i - l.length) with h0 | h0
          · exact h0
          · rw [List.getElem?_eq_none (by simp; omega)] at hc'; cases hc'
        rw [this] at hc'
        obtain rfl : c = c' := by simpa using hc'
        obtain rfl : i = len := by omega
        exact hc
/-- a slice's header and elements -/
theorem slice_of {β : Type} {f : β → List Value} {Q : β → Prop} {sz : Nat} {t e : TypeId} {n : Nat} {cs : List Value} {y : DataW H × List MemPlace} (hu : Try.prog.underlying t = some (.slice e)) (hC : Try.prog.cellsOf e = sz) (h0 : 0 < sz) (hlen : ∀ c, (f c).length = sz)
    (hel : ∀ (n : Nat) (cs : List Value) (y : DataW H × List MemPlace), DataW.trod enc Try.prog w base sp held n e cs = some y → ∃ c, Q c ∧ cs = f c) (hf : DataW.trod enc Try.prog w base sp held n t cs = some y) :
    ∃ (A : Option Addr) (k cap : Nat) (l : List β), cs = [.slice A k cap] ∧ Rd w sz A k (l.flatMap f) ∧ k ≤ cap ∧ cap ≤ maxLen ∧ ∀ c ∈ l, Q c := by
  rcases DataW.trod_slice hu hf with ⟨he, _⟩ | ⟨a, len, cap', elems, rest, m, _, he, _, _, hlc, hcm, hel', hcell, _, _⟩
  · exact ⟨none, 0, 0, [], he, ⟨by simp, fun h => absurd h (by omega)⟩, Nat.le_refl _, by omega, fun _ h => nomatch h⟩
  · rw [hC] at hcell
    obtain ⟨l, hl, hq, hx⟩ := els_of (w := w) (base := base) (f := f) (Q := Q) (sz := sz) a len fun i hi => by
      have h1 := hcell i hi
      rw [List.getElem?_eq_getElem (by omega)] at h1
      cases hq : w.cells? base (a.add (i * sz)) sz with
      | none => rw [hq] at h1; simp at h1
      | some cs =>
        rw [hq] at h1
        obtain ⟨c, hqc, rfl⟩ := hel _ _ _ (by simpa using h1)
        exact ⟨c, hqc, rfl⟩
    have hll : (l.flatMap f).length = len * sz := by rw [SX.flat_len hlen, hl]
    refine ⟨some a, len, cap', l, he, ⟨hll, fun hn => ⟨a, rfl, ?_, fun j u hu => ?_⟩⟩, by omega, by omega, hq⟩
    · obtain ⟨c, hc⟩ : ∃ c, l[0]? = some c := ⟨_, List.getElem?_eq_getElem (by omega)⟩
      have := World.cells?_block (hx 0 c hc) (by omega)
      rwa [block_of_add] at this
    · have hj : j < len * sz := by
        have := (List.getElem?_eq_some_iff.1 hu).1
        rwa [hll] at this
      have hd : j / sz < len := Nat.div_lt_of_lt_mul (by rw [Nat.mul_comm]; exact hj)
      have hm : j % sz < sz := Nat.mod_lt _ h0
      obtain ⟨c, hc⟩ : ∃ c, l[j / sz]? = some c := ⟨_, List.getElem?_eq_getElem (by omega)⟩
      have hw := hx _ c hc
      have hjj : j / sz * sz + j % sz = j := by rw [Nat.mul_comm]; exact Nat.div_add_mod j sz
      have h4 : (f c)[j % sz]? = some u := by
        rw [← hjj, ← List.getElem?_drop, SX.flat_elem hlen hc, List.getElem?_append_left (by rw [hlen]; exact hm)] at hu
        exact hu
      obtain ⟨_, _, h5⟩ := World.cells?_some hw
      have h6 := (h5 (j % sz) hm).trans h4
      have h7 : (a.add (j / sz * sz)).add (j % sz) = a.add j := by rw [Addr.add_add, hjj]
      rw [h7] at h6
      exact h6
theorem open_sgs (hd : DataW.Trod enc Try.prog w base sp held 22 v d ps) : ∃ (A : Option Addr) (n cap : Nat) (l : List Sg), v.cells.toList = [.slice A n cap] ∧ Rd w 14 A n (sgsL l) ∧ n ≤ cap ∧ cap ≤ maxLen := by
  obtain ⟨fuel, hf⟩ := hd
  obtain ⟨A, k, cap, l, h1, h2, h3, h4, _⟩ := slice_of (f := cellsSg) (sz := 14) (Q := fun _ => True) Try.underlying22 (by kernel_rfl) (by decide) (fun _ => rfl) (fun n cs y h => by obtain ⟨s, e⟩ := sign_cells h; exact ⟨s, trivial, e⟩) hf
  exact ⟨A, k, cap, l, h1, h2, h3, h4⟩
theorem v_slice {r : Reach} {b0 : Nat} {t e : TypeId} (hu : Try.prog.underlying t = some (.slice e)) (hval : Value.okWide Try.prog w r b0 t v) {A : Option Addr} {n cap : Nat} (h : v.cells.toList = [.slice A n cap]) : v = .slice A n cap := by
  obtain ⟨A', n', c', rfl⟩ := okWide_slice hu hval
  simpa [Value.cells] using h
theorem edit_cells {n : Nat} {cs : List Value} {y : DataW H × List MemPlace} (hf : DataW.trod enc Try.prog w base sp held n 28 cs = some y) : ∃ q : Ed, cs = cellsE q := by
  obtain ⟨xs, n, _, _, hlen, hl, hx⟩ := DataW.trod_struct Try.underlying28 hf
  have hC : Try.prog.cellsOf 28 = 22 := by kernel_rfl
  rw [hC] at hlen
  have hl' : xs.length = 8 := hl
  have g0 : DataW.trod enc Try.prog w base sp held n 3 ((cs.drop 0).take 1) = some (xs[0]'(by omega)) := (hx 0 _ rfl).trans (List.getElem?_eq_getElem _)
  obtain ⟨v0, e0⟩ := int_at Try.underlying3 g0
  have g1 : DataW.trod enc Try.prog w base sp held n 3 ((cs.drop 1).take 1) = some (xs[1]'(by omega)) := (hx 1 _ rfl).trans (List.getElem?_eq_getElem _)
  obtain ⟨v1, e1⟩ := int_at Try.underlying3 g1
  have g2 : DataW.trod enc Try.prog w base sp held n 3 ((cs.drop 2).take 1) = some (xs[2]'(by omega)) := (hx 2 _ rfl).trans (List.getElem?_eq_getElem _)
  obtain ⟨v2, e2⟩ := int_at Try.underlying3 g2
  have g3 : DataW.trod enc Try.prog w base sp held n 3 ((cs.drop 3).take 1) = some (xs[3]'(by omega)) := (hx 3 _ rfl).trans (List.getElem?_eq_getElem _)
  obtain ⟨v3, e3⟩ := int_at Try.underlying3 g3
  have g4 : DataW.trod enc Try.prog w base sp held n 3 ((cs.drop 4).take 1) = some (xs[4]'(by omega)) := (hx 4 _ rfl).trans (List.getElem?_eq_getElem _)
  obtain ⟨v4, e4⟩ := int_at Try.underlying3 g4
  have g5 : DataW.trod enc Try.prog w base sp held n 3 ((cs.drop 5).take 1) = some (xs[5]'(by omega)) := (hx 5 _ rfl).trans (List.getElem?_eq_getElem _)
  obtain ⟨v5, e5⟩ := int_at Try.underlying3 g5
  have g6 : DataW.trod enc Try.prog w base sp held n 24 ((cs.drop 6).take 2) = some (xs[6]'(by omega)) := (hx 6 _ rfl).trans (List.getElem?_eq_getElem _)
  obtain ⟨m, k, e6⟩ := ratio_cells g6
  have g7 : DataW.trod enc Try.prog w base sp held n 26 ((cs.drop 8).take 14) = some (xs[7]'(by omega)) := (hx 7 _ rfl).trans (List.getElem?_eq_getElem _)
  obtain ⟨s, es⟩ := sign_cells g7
  refine ⟨⟨v0, v1, v2, v3, v4, v5, m, k, s⟩, ?_⟩
  show cs = [.int .i64 v0, .int .i64 v1, .int .i64 v2, .int .i64 v3, .int .i64 v4, .int .i64 v5, .int .i64 m, .int .i64 k] ++ cellsSg s
  have h0 : cs = cs.take 6 ++ ((cs.drop 6).take 2 ++ cs.drop 8) := by
    rw [show cs.drop 8 = (cs.drop 6).drop 2 by rw [List.drop_drop], List.take_append_drop, List.take_append_drop]
  have h1 : cs.take 6 = [.int .i64 v0, .int .i64 v1, .int .i64 v2, .int .i64 v3, .int .i64 v4, .int .i64 v5] := by
    apply List.ext_getElem?
    intro i
    rw [List.getElem?_take]
    split
    · have hc : i = 0 ∨ i = 1 ∨ i = 2 ∨ i = 3 ∨ i = 4 ∨ i = 5 := by omega
      rcases hc with rfl | rfl | rfl | rfl | rfl | rfl
      · exact e0
      · exact e1
      · exact e2
      · exact e3
      · exact e4
      · exact e5
    · rw [List.getElem?_eq_none (by show 6 ≤ i; omega)]
  have h2 : cs.drop 8 = cellsSg s := by
    rw [← es, List.take_of_length_le (by simp; omega)]
  rw [h0, h1, e6, h2]
  simp only [List.cons_append, List.nil_append]
theorem open_edit (hd : DataW.Trod enc Try.prog w base sp held 28 v d ps) : ∃ q : Ed, v.cells.toList = cellsE q := by
  obtain ⟨fuel, hf⟩ := hd
  exact edit_cells hf
theorem v_edit {r : Reach} {b0 : Nat} (hval : Value.okWide Try.prog w r b0 28 v) {q : Ed} (h : v.cells.toList = cellsE q) : v = valE q := by
  obtain ⟨cs, rfl, hsz⟩ := okWide_struct Try.underlying28 hval
  have : cs = (cellsE q).toArray := by rw [← h]; rfl
  rw [this]; rfl
theorem u8_of {a : Int} (h : (Lit.int .u8 a).wf = true) : 0 ≤ a ∧ a ≤ 255 := by
  have h : (decide (IntKind.u8.min ≤ a) && decide (a ≤ IntKind.u8.max)) = true := h
  rw [Bool.and_eq_true, decide_eq_true_eq, decide_eq_true_eq] at h
  exact ⟨h.1, h.2⟩
theorem open_ratio (hd : DataW.Trod enc Try.prog w base sp held 24 v d ps) : ∃ m k : Int, v.cells.toList = [.int .i64 m, .int .i64 k] := by
  obtain ⟨fuel, hf⟩ := hd
  exact ratio_cells hf
theorem v_ratio {r : Reach} {b0 : Nat} (hval : Value.okWide Try.prog w r b0 24 v) {m k : Int} (h : v.cells.toList = [.int .i64 m, .int .i64 k]) : v = .agg #[.int .i64 m, .int .i64 k] := by
  obtain ⟨cs, rfl, hsz⟩ := okWide_struct Try.underlying24 hval
  have : cs = ([.int .i64 m, .int .i64 k] : List Value).toArray := by rw [← h]; rfl
  rw [this]
end
end Go.Proofs.Ytnaooclbphaelaa
