/-
  Limits and bodies as arguments: what their cells are.
-/
import Derived.Test.YtmkigejhgpoleaaLaw
import Derived.Test.YtmkigejhgpoleaaLk
import Derived.DataElems
namespace Go.Proofs.Ytmkigejhgpoleaa
set_option linter.unusedSimpArgs false
set_option linter.unusedVariables false
set_option maxRecDepth 20000
open Go Go.RowKit Go.ChangeShapes Go.WideShapes Go.ChangeAt
def Lim.fits (x : Lim) : Prop := fitI x.no ∧ fitI x.person ∧ fitI x.of_ ∧ fitI x.from_ ∧ fitI x.to_ ∧ fitI x.known ∧ fitI x.kind ∧ fitI x.limb ∧ fitI x.n
theorem fits_lm {l : List Lim} (h : ∀ x ∈ l, x.fits) : fitLm l := fun z hz => (h z hz).2.2.1
theorem max_eq : maxLen = 9223372036854775807 := by unfold maxLen; rfl
section
variable {H : Type} {enc : TypeId × Value → H} {P : Program} {w : World} {base : Nat} {spare : Nat → Bool} {held : Bool} {fuel : Nat} {t : TypeId} {cs : List Value}
theorem take_at {off : Nat} {v : Value} (h : (cs.drop off).take 1 = [v]) : cs[off]? = some v := by
  have : ((cs.drop off).take 1)[0]? = some v := by rw [h]; rfl
  simpa [List.getElem?_take, List.getElem?_drop] using this
theorem int_at {off : Nat} (hu : P.underlying t = some (.int .i64)) {y : DataW H × List MemPlace} (h : DataW.trod enc P w base spare held fuel t ((cs.drop off).take 1) = some y) : ∃ n, cs[off]? = some (.int .i64 n) ∧ fitI n := by
  obtain ⟨n, e, _, hw⟩ := DataW.trod_int hu h
  have hw : (decide (IntKind.i64.min ≤ n) && decide (n ≤ IntKind.i64.max)) = true := hw
  rw [Bool.and_eq_true, decide_eq_true_eq, decide_eq_true_eq] at hw
  exact ⟨n, take_at e, hw.1, hw.2⟩
theorem at_str {off : Nat} (hu : P.underlying t = some .string) {y : DataW H × List MemPlace} (h : DataW.trod enc P w base spare held fuel t ((cs.drop off).take 1) = some y) : ∃ s : ByteArray, cs[off]? = some (.string s) ∧ s.size ≤ maxLen := by
  obtain ⟨n, e, _, hm⟩ := DataW.trod_string hu h
  exact ⟨n, take_at e, hm⟩
theorem at_three {off : Nat} {e : TypeId} (hu : P.underlying t = some (.array 3 e)) (he : P.underlying e = some (.int .i64)) (hc : P.cellsOf e = 1) {y : DataW H × List MemPlace} (h : DataW.trod enc P w base spare held fuel t ((cs.drop off).take 3) = some y) :
    (∃ n, cs[off]? = some (.int .i64 n)) ∧ (∃ n, cs[off + 1]? = some (.int .i64 n)) ∧ (∃ n, cs[off + 2]? = some (.int .i64 n)) := by
  obtain ⟨xs, m, _, _, _, hl, hx⟩ := DataW.trod_array hu h
  rw [hc] at hx
  have key : ∀ i, i < 3 → ∃ n, cs[off + i]? = some (.int .i64 n) := fun i hi => by
    have h1 := hx i hi
    rw [List.getElem?_eq_getElem (by omega), Nat.mul_one] at h1
    obtain ⟨n, e, _⟩ := int_at he h1
    refine ⟨n, ?_⟩
    simpa [List.getElem?_take, List.getElem?_drop, hi] using e
  exact ⟨key 0 (by omega), key 1 (by omega), key 2 (by omega)⟩
end
section
variable {H : Type} {enc : TypeId × Value → H} {w : World} {base : Nat} {sp : Nat → Bool} {held : Bool} {r : Reach} {b0 : Nat} {v : Value} {d : DataW H} {ps : List MemPlace}
theorem cap_cells {n : Nat} {cs : List Value} {y : DataW H × List MemPlace} (hf : DataW.trod enc Try.prog w base sp held n 24 cs = some y) : ∃ k l n : Int, cs = [.int .i64 k, .int .i64 l, .int .i64 n] ∧ fitI k ∧ fitI l ∧ fitI n := by
  obtain ⟨xs, n, _, _, hlen, hl, hx⟩ := DataW.trod_struct Try.underlying24 hf
  have hC : Try.prog.cellsOf 24 = 3 := by kernel_rfl
  rw [hC] at hlen
  have hl' : xs.length = 3 := hl
  have g0 : DataW.trod enc Try.prog w base sp held n 3 ((cs.drop 0).take 1) = some (xs[0]'(by omega)) := (hx 0 _ rfl).trans (List.getElem?_eq_getElem _)
  obtain ⟨v0, e0, f0⟩ := int_at Try.underlying3 g0
  clear g0
  have g1 : DataW.trod enc Try.prog w base sp held n 3 ((cs.drop 1).take 1) = some (xs[1]'(by omega)) := (hx 1 _ rfl).trans (List.getElem?_eq_getElem _)
  obtain ⟨v1, e1, f1⟩ := int_at Try.underlying3 g1
  clear g1
  have g2 : DataW.trod enc Try.prog w base sp held n 3 ((cs.drop 2).take 1) = some (xs[2]'(by omega)) := (hx 2 _ rfl).trans (List.getElem?_eq_getElem _)
  obtain ⟨v2, e2, f2⟩ := int_at Try.underlying3 g2
  clear g2
  refine ⟨v0, v1, v2, ?_, f0, f1, f2⟩
  apply List.ext_getElem?
  intro i
  by_cases hi : i < 3
  · have hc : i = 0 ∨ i = 1 ∨ i = 2 := by omega
    rcases hc with rfl | rfl | rfl
    · exact e0
    · exact e1
    · exact e2
  · rw [List.getElem?_eq_none (by omega), List.getElem?_eq_none (by show 3 ≤ i; omega)]
theorem lim_cells {n : Nat} {cs : List Value} {y : DataW H × List MemPlace} (hf : DataW.trod enc Try.prog w base sp held n 26 cs = some y) : ∃ s : Lim, cs = cellsLm s ∧ s.fits := by
  obtain ⟨xs, n, _, _, hlen, hl, hx⟩ := DataW.trod_struct Try.underlying26 hf
  have hC : Try.prog.cellsOf 26 = 9 := by kernel_rfl
  rw [hC] at hlen
  have hl' : xs.length = 7 := hl
  have g0 : DataW.trod enc Try.prog w base sp held n 3 ((cs.drop 0).take 1) = some (xs[0]'(by omega)) := (hx 0 _ rfl).trans (List.getElem?_eq_getElem _)
  obtain ⟨v0, e0, f0⟩ := int_at Try.underlying3 g0
  clear g0
  have g1 : DataW.trod enc Try.prog w base sp held n 3 ((cs.drop 1).take 1) = some (xs[1]'(by omega)) := (hx 1 _ rfl).trans (List.getElem?_eq_getElem _)
  obtain ⟨v1, e1, f1⟩ := int_at Try.underlying3 g1
  clear g1
  have g2 : DataW.trod enc Try.prog w base sp held n 3 ((cs.drop 2).take 1) = some (xs[2]'(by omega)) := (hx 2 _ rfl).trans (List.getElem?_eq_getElem _)
  obtain ⟨v2, e2, f2⟩ := int_at Try.underlying3 g2
  clear g2
  have g3 : DataW.trod enc Try.prog w base sp held n 3 ((cs.drop 3).take 1) = some (xs[3]'(by omega)) := (hx 3 _ rfl).trans (List.getElem?_eq_getElem _)
  obtain ⟨v3, e3, f3⟩ := int_at Try.underlying3 g3
  clear g3
  have g4 : DataW.trod enc Try.prog w base sp held n 3 ((cs.drop 4).take 1) = some (xs[4]'(by omega)) := (hx 4 _ rfl).trans (List.getElem?_eq_getElem _)
  obtain ⟨v4, e4, f4⟩ := int_at Try.underlying3 g4
  clear g4
  have g5 : DataW.trod enc Try.prog w base sp held n 3 ((cs.drop 5).take 1) = some (xs[5]'(by omega)) := (hx 5 _ rfl).trans (List.getElem?_eq_getElem _)
  obtain ⟨v5, e5, f5⟩ := int_at Try.underlying3 g5
  clear g5
  have g6 : DataW.trod enc Try.prog w base sp held n 24 ((cs.drop 6).take 3) = some (xs[6]'(by omega)) := (hx 6 _ rfl).trans (List.getElem?_eq_getElem _)
  obtain ⟨v6, v7, v8, q6, f6, f7, f8⟩ := cap_cells g6
  clear g6
  refine ⟨⟨v0, v1, v2, v3, v4, v5, v6, v7, v8⟩, ?_, f0, f1, f2, f3, f4, f5, f6, f7, f8⟩
  have e6 : cs[6]? = some (.int .i64 v6) := by
    have h0 : ((cs.drop 6).take 3)[0]? = some (.int .i64 v6) := by rw [q6]; rfl
    simpa [List.getElem?_take, List.getElem?_drop] using h0
  have e7 : cs[7]? = some (.int .i64 v7) := by
    have h0 : ((cs.drop 6).take 3)[1]? = some (.int .i64 v7) := by rw [q6]; rfl
    simpa [List.getElem?_take, List.getElem?_drop] using h0
  have e8 : cs[8]? = some (.int .i64 v8) := by
    have h0 : ((cs.drop 6).take 3)[2]? = some (.int .i64 v8) := by rw [q6]; rfl
    simpa [List.getElem?_take, List.getElem?_drop] using h0
  apply List.ext_getElem?
  intro i
  by_cases hi : i < 9
  · have hc : i = 0 ∨ i = 1 ∨ i = 2 ∨ i = 3 ∨ i = 4 ∨ i = 5 ∨ i = 6 ∨ i = 7 ∨ i = 8 := by omega
    rcases hc with rfl | rfl | rfl | rfl | rfl | rfl | rfl | rfl | rfl
    · exact e0
    · exact e1
    · exact e2
    · exact e3
    · exact e4
    · exact e5
    · exact e6
    · exact e7
    · exact e8
  · rw [List.getElem?_eq_none (by omega), List.getElem?_eq_none (by show 9 ≤ i; omega)]
/-- the elements of a slice -/
theorem els_of {β : Type} {f : β → List Value} {Q : β → Prop} {sz : Nat} (a : Addr) : ∀ (len : Nat), (∀ i, i < len → ∃ c : β, Q c ∧ w.cells? base (a.add (i * sz)) sz = some (f c)) →
    ∃ l : List β, l.length = len ∧ (∀ c ∈ l, Q c) ∧ ∀ i c, l[i]? = some c → w.cells? base (a.add (i * sz)) sz = some (f c)
  | 0, _ => ⟨[], rfl, (fun _ h => nomatch h), by simp⟩
  | len + 1, h => by
    obtain ⟨l, hl, hq, hx⟩ := els_of a len (fun i hi => h i (by omega))
    obtain ⟨c, hqc, hc⟩ := h len (by omega)
    refine ⟨l ++ [c], by simp [hl], fun c' hc' => ?_, fun i c' hc' => ?_⟩
    · rcases List.mem_append.1 hc' with h1 | h1
      · exact hq c' h1
      · obtain rfl : c' = c := by simpa using h1
        exact hqc
    · rw [List.getElem?_append] at hc'
      split at hc'
      · exact hx i c' hc'
      · have : i - l.length = 0 := by
          rcases Nat.eq_zero_or_pos (i - l.length) with h0 | h0
          · exact h0
          · rw [List.getElem?_eq_none (by simp; omega)] at hc'; cases hc'
        rw [this] at hc'
        obtain rfl : c = c' := by simpa using hc'
        obtain rfl : i = len := by omega
        exact hc
/-- a slice's header and elements -/
theorem slice_of {β : Type} {f : β → List Value} {Q : β → Prop} {sz : Nat} {t e : TypeId} {n : Nat} {cs : List Value} {y : DataW H × List MemPlace} (hu : Try.prog.underlying t = some (.slice e)) (hC : Try.prog.cellsOf e = sz) (h0 : 0 < sz) (hlen : ∀ c, (f c).length = sz)
    (hel : ∀ (n : Nat) (cs : List Value) (y : DataW H × List MemPlace), DataW.trod enc Try.prog w base sp held n e cs = some y → ∃ c, Q c ∧ cs = f c) (hf : DataW.trod enc Try.prog w base sp held n t cs = some y) :
    ∃ (A : Option Addr) (k cap : Nat) (l : List β), cs = [.slice A k cap] ∧ Rd w sz A k (l.flatMap f) ∧ k ≤ cap ∧ cap ≤ maxLen ∧ ∀ c ∈ l, Q c := by
  rcases DataW.trod_slice hu hf with ⟨he, _⟩ | ⟨a, len, cap', elems, rest, m, _, he, _, _, hlc, hcm, hel', hcell, _, _⟩
  · exact ⟨none, 0, 0, [], he, ⟨by simp, fun h => absurd h (by omega)⟩, Nat.le_refl _, by omega, fun _ h => nomatch h⟩
  · rw [hC] at hcell
    obtain ⟨l, hl, hq, hx⟩ := els_of (w := w) (base := base) (f := f) (Q := Q) (sz := sz) a len fun i hi => by
      have h1 := hcell i hi
      rw [List.getElem?_eq_getElem (by omega)] at h1
      cases hq : w.cells? base (a.add (i * sz)) sz with
      | none => rw [hq] at h1; simp at h1
      | some cs =>
        rw [hq] at h1
        obtain ⟨c, hqc, rfl⟩ := hel _ _ _ (by simpa using h1)
        exact ⟨c, hqc, rfl⟩
    have hll : (l.flatMap f).length = len * sz := by rw [SX.flat_len hlen, hl]
    refine ⟨some a, len, cap', l, he, ⟨hll, fun hn => ⟨a, rfl, ?_, fun j u hu => ?_⟩⟩, by omega, by omega, hq⟩
    · obtain ⟨c, hc⟩ : ∃ c, l[0]? = some c := ⟨_, List.getElem?_eq_getElem (by omega)⟩
      have := World.cells?_block (hx 0 c hc) (by omega)
      rwa [block_of_add] at this
    · have hj : j < len * sz := by
        have := (List.getElem?_eq_some_iff.1 hu).1
        rwa [hll] at this
      have hd : j / sz < len := Nat.div_lt_of_lt_mul (by rw [Nat.mul_comm]; exact hj)
      have hm : j % sz < sz := Nat.mod_lt _ h0
      obtain ⟨c, hc⟩ : ∃ c, l[j / sz]? = some c := ⟨_, List.getElem?_eq_getElem (by omega)⟩
      have hw := hx _ c hc
      have hjj : j / sz * sz + j % sz = j := by rw [Nat.mul_comm]; exact Nat.div_add_mod j sz
      have h4 : (f c)[j % sz]? = some u := by
        rw [← hjj, ← List.getElem?_drop, SX.flat_elem hlen hc, List.getElem?_append_left (by rw [hlen]; exact hm)] at hu
        exact hu
      obtain ⟨_, _, h5⟩ := World.cells?_some hw
      have h6 := (h5 (j % sz) hm).trans h4
      have h7 : (a.add (j / sz * sz)).add (j % sz) = a.add j := by rw [Addr.add_add, hjj]
      rw [h7] at h6
      exact h6
theorem open_lms (hd : DataW.Trod enc Try.prog w base sp held 22 v d ps) : ∃ (A : Option Addr) (n cap : Nat) (l : List Lim), v.cells.toList = [.slice A n cap] ∧ Rd w 9 A n (lmL l) ∧ n ≤ cap ∧ cap ≤ maxLen ∧ ∀ x ∈ l, x.fits := by
  obtain ⟨fuel, hf⟩ := hd
  exact slice_of (f := cellsLm) (sz := 9) (Q := Lim.fits) Try.underlying22 (by kernel_rfl) (by decide) (fun _ => rfl) (fun n cs y h => by obtain ⟨s, e, f⟩ := lim_cells h; exact ⟨s, f, e⟩) hf
theorem open_lim (hd : DataW.Trod enc Try.prog w base sp held 26 v d ps) : ∃ q : Lim, v.cells.toList = cellsLm q ∧ q.fits := by
  obtain ⟨fuel, hf⟩ := hd
  exact lim_cells hf
theorem v_lim {r : Reach} {b0 : Nat} (hval : Value.okWide Try.prog w r b0 26 v) {q : Lim} (h : v.cells.toList = cellsLm q) : v = valLm q := by
  obtain ⟨cs, rfl, hsz⟩ := okWide_struct Try.underlying26 hval
  have : cs = (cellsLm q).toArray := by rw [← h]; rfl
  rw [this]; rfl
theorem u8_of {a : Int} (h : (Lit.int .u8 a).wf = true) : 0 ≤ a ∧ a ≤ 255 := by
  have h : (decide (IntKind.u8.min ≤ a) && decide (a ≤ IntKind.u8.max)) = true := h
  rw [Bool.and_eq_true, decide_eq_true_eq, decide_eq_true_eq] at h
  exact ⟨h.1, h.2⟩
theorem i64_of {a : Int} (h : (Lit.int .i64 a).wf = true) : fitI a := by
  have h : (decide (IntKind.i64.min ≤ a) && decide (a ≤ IntKind.i64.max)) = true := h
  rw [Bool.and_eq_true, decide_eq_true_eq, decide_eq_true_eq] at h
  exact ⟨h.1, h.2⟩
theorem v_slice {r : Reach} {b0 : Nat} {t e : TypeId} (hu : Try.prog.underlying t = some (.slice e)) (hval : Value.okWide Try.prog w r b0 t v) {A : Option Addr} {n cap : Nat} (h : v.cells.toList = [.slice A n cap]) : v = .slice A n cap := by
  obtain ⟨A', n', c', rfl⟩ := okWide_slice hu hval
  simpa [Value.cells] using h
set_option maxRecDepth 20000 in
theorem open_body (hval : Value.okWide Try.prog w r b0 37 v) (hd : DataW.Trod enc Try.prog w base sp held 37 v d ps) : ∃ b : Bod.Bd, v = valBd b ∧ b.name.size ≤ maxLen := by
  obtain ⟨cs, rfl, hsz⟩ := okWide_struct Try.underlying37 hval
  have hC : Try.prog.cellsOf 37 = 17 := by kernel_rfl
  rw [hC] at hsz
  obtain ⟨fuel, hf⟩ := hd
  obtain ⟨xs, n, _, _, _, hl, hx⟩ := DataW.trod_struct Try.underlying37 hf
  have hcs : (Value.agg cs).cells.toList = cs.toList := rfl
  rw [hcs] at hx
  clear hcs hf
  have hl' : xs.length = 11 := hl
  have g0 : DataW.trod enc Try.prog w base sp held n 9 ((cs.toList.drop 0).take 1) = some (xs[0]'(by omega)) := (hx 0 _ rfl).trans (List.getElem?_eq_getElem _)
  obtain ⟨v0, e0, hm⟩ := at_str Try.underlying9 g0
  clear g0
  have g1 : DataW.trod enc Try.prog w base sp held n 3 ((cs.toList.drop 1).take 1) = some (xs[1]'(by omega)) := (hx 1 _ rfl).trans (List.getElem?_eq_getElem _)
  obtain ⟨v1, e1, _⟩ := int_at Try.underlying3 g1
  clear g1
  have g2 : DataW.trod enc Try.prog w base sp held n 3 ((cs.toList.drop 2).take 1) = some (xs[2]'(by omega)) := (hx 2 _ rfl).trans (List.getElem?_eq_getElem _)
  obtain ⟨v2, e2, _⟩ := int_at Try.underlying3 g2
  clear g2
  have g3 : DataW.trod enc Try.prog w base sp held n 3 ((cs.toList.drop 3).take 1) = some (xs[3]'(by omega)) := (hx 3 _ rfl).trans (List.getElem?_eq_getElem _)
  obtain ⟨v3, e3, _⟩ := int_at Try.underlying3 g3
  clear g3
  have g4 : DataW.trod enc Try.prog w base sp held n 3 ((cs.toList.drop 4).take 1) = some (xs[4]'(by omega)) := (hx 4 _ rfl).trans (List.getElem?_eq_getElem _)
  obtain ⟨v4, e4, _⟩ := int_at Try.underlying3 g4
  clear g4
  have g5 : DataW.trod enc Try.prog w base sp held n 3 ((cs.toList.drop 5).take 1) = some (xs[5]'(by omega)) := (hx 5 _ rfl).trans (List.getElem?_eq_getElem _)
  obtain ⟨v5, e5, _⟩ := int_at Try.underlying3 g5
  clear g5
  have g6 : DataW.trod enc Try.prog w base sp held n 35 ((cs.toList.drop 6).take 3) = some (xs[6]'(by omega)) := (hx 6 _ rfl).trans (List.getElem?_eq_getElem _)
  obtain ⟨⟨v6, e6⟩, ⟨v7, e7⟩, ⟨v8, e8⟩⟩ := at_three Try.underlying35 Try.underlying3 (by kernel_rfl) g6
  clear g6
  have g7 : DataW.trod enc Try.prog w base sp held n 35 ((cs.toList.drop 9).take 3) = some (xs[7]'(by omega)) := (hx 7 _ rfl).trans (List.getElem?_eq_getElem _)
  obtain ⟨⟨v9, e9⟩, ⟨v10, e10⟩, ⟨v11, e11⟩⟩ := at_three Try.underlying35 Try.underlying3 (by kernel_rfl) g7
  clear g7
  have g8 : DataW.trod enc Try.prog w base sp held n 35 ((cs.toList.drop 12).take 3) = some (xs[8]'(by omega)) := (hx 8 _ rfl).trans (List.getElem?_eq_getElem _)
  obtain ⟨⟨v12, e12⟩, ⟨v13, e13⟩, ⟨v14, e14⟩⟩ := at_three Try.underlying35 Try.underlying3 (by kernel_rfl) g8
  clear g8
  have g9 : DataW.trod enc Try.prog w base sp held n 3 ((cs.toList.drop 15).take 1) = some (xs[9]'(by omega)) := (hx 9 _ rfl).trans (List.getElem?_eq_getElem _)
  obtain ⟨v15, e15, _⟩ := int_at Try.underlying3 g9
  clear g9
  have g10 : DataW.trod enc Try.prog w base sp held n 3 ((cs.toList.drop 16).take 1) = some (xs[10]'(by omega)) := (hx 10 _ rfl).trans (List.getElem?_eq_getElem _)
  obtain ⟨v16, e16, _⟩ := int_at Try.underlying3 g10
  clear g10
  have : cs = (cellsBd ⟨v0, v1, v2, v3, v4, v5, v6, v7, v8, v9, v10, v11, v12, v13, v14, v15, v16⟩).toArray := by
    apply Array.ext'
    apply List.ext_getElem?
    intro i
    by_cases hi : i < 17
    · have hc : i = 0 ∨ i = 1 ∨ i = 2 ∨ i = 3 ∨ i = 4 ∨ i = 5 ∨ i = 6 ∨ i = 7 ∨ i = 8 ∨ i = 9 ∨ i = 10 ∨ i = 11 ∨ i = 12 ∨ i = 13 ∨ i = 14 ∨ i = 15 ∨ i = 16 := by omega
      rcases hc with rfl | rfl | rfl | rfl | rfl | rfl | rfl | rfl | rfl | rfl | rfl | rfl | rfl | rfl | rfl | rfl | rfl
      · exact e0
      · exact e1
      · exact e2
      · exact e3
      · exact e4
      · exact e5
      · exact e6
      · exact e7
      · exact e8
      · exact e9
      · exact e10
      · exact e11
      · exact e12
      · exact e13
      · exact e14
      · exact e15
      · exact e16
    · rw [List.getElem?_eq_none (by simp; omega), List.getElem?_eq_none (by show 17 ≤ i; omega)]
  subst this
  exact ⟨_, rfl, hm⟩
end
end Go.Proofs.Ytmkigejhgpoleaa
