/-
  The statement 'ChainEqual' as its tied card: for every input the law returns true, and each argument reads as it read before; the listed variables are as the program's text lays them. No other condition.
-/
import Derived.Test.YtdamlaegboiokaaDoorPA1
import Derived.Test.YtdamlaegboiokaaDoorPE6
import Derived.LaidMore
import Derived.Stop.Joined
import Derived.Stop.LaidErr
import Derived.Lib.LaidTab
import Derived.ChangeSlices
import Derived.MakeChecks
import Derived.DataElems
import Derived.Test.YtdamlaegboiokaaDoorCards
import Derived.Test.YtdamlaegboiokaaDoorTie
import Derived.SevenTiedAt
set_option linter.unusedSimpArgs false
set_option linter.unusedVariables false
namespace Go.Proofs.YtdamlaegboiokaaDoor
set_option maxRecDepth 20000
open Go Go.RowKit Go.ChangeShapes Go.WideShapes Go.ChangeAt
theorem max_eq : maxLen = 9223372036854775807 := by unfold maxLen; rfl
section
variable {H : Type} {enc : TypeId × Value → H} {P : Program} {w : World} {base : Nat} {spare : Nat → Bool} {held : Bool} {fuel : Nat} {t : TypeId} {cs : List Value}
theorem take_at {off : Nat} {v : Value} (h : (cs.drop off).take 1 = [v]) : cs[off]? = some v := by
  have : ((cs.drop off).take 1)[0]? = some v := by rw [h]; rfl
  simpa [List.getElem?_take, List.getElem?_drop] using this
end
section
variable {H : Type} {enc : TypeId × Value → H} {w : World} {base : Nat} {sp : Nat → Bool} {held : Bool} {r : Reach} {b0 : Nat} {v : Value} {d : DataW H} {ps : List MemPlace}
theorem els_of {β : Type} {f : β → List Value} {Q : β → Prop} {sz : Nat} (a : Addr) : ∀ (len : Nat), (∀ i, i < len → ∃ c : β, Q c ∧ w.cells? base (a.add (i * sz)) sz = some (f c)) →
    ∃ l : List β, l.length = len ∧ (∀ c ∈ l, Q c) ∧ ∀ i c, l[i]? = some c → w.cells? base (a.add (i * sz)) sz = some (f c)
  | 0, _ => ⟨[], rfl, (fun _ h => nomatch h), by simp⟩
  | len + 1, h => by
    obtain ⟨l, hl, hq, hx⟩ := els_of a len (fun i hi => h i (by omega))
    obtain ⟨c, hqc, hc⟩ := h len (by omega)
    refine ⟨l ++ [c], by simp [hl], fun c' hc' => ?_, fun i c' hc' => ?_⟩
    · rcases List.mem_append.1 hc' with h1 | h1
      · exact hq c' h1
      obtain rfl : c' = c := by simpa using h1
      exact hqc
    rw [List.getElem?_append] at hc'
    split at hc'
    · exact hx i c' hc'
    have : i - l.length = 0 := by
      rcases Nat.eq_zero_or_pos (i - l.length) with h0 | h0
      · exact h0
      rw [List.getElem?_eq_none (by simp; omega)] at hc'; cases hc'
    rw [this] at hc'
    obtain rfl : c = c' := by simpa using hc'
    obtain rfl : i = len := by omega
    exact hc
theorem slice_of {β : Type} {f : β → List Value} {Q : β → Prop} {sz : Nat} {t e : TypeId} {n : Nat} {cs : List Value} {y : DataW H × List MemPlace} (hu : Tryd.prog.underlying t = some (.slice e)) (hC : Tryd.prog.cellsOf e = sz) (h0 : 0 < sz) (hlen : ∀ c, (f c).length = sz)
    (hel : ∀ (n : Nat) (cs : List Value) (y : DataW H × List MemPlace), DataW.trod enc Tryd.prog w base sp held n e cs = some y → ∃ c, Q c ∧ cs = f c) (hf : DataW.trod enc Tryd.prog w base sp held n t cs = some y) :
    ∃ (A : Option Addr) (k cap : Nat) (l : List β), cs = [.slice A k cap] ∧ Rd w sz A k (l.flatMap f) ∧ k ≤ cap ∧ cap ≤ maxLen ∧ ∀ c ∈ l, Q c := by
  rcases DataW.trod_slice hu hf with ⟨he, _⟩ | ⟨a, len, cap', elems, rest, m, _, he, _, _, hlc, hcm, hel', hcell, _, _⟩
  · exact ⟨none, 0, 0, [], he, ⟨by simp, fun h => absurd h (by omega)⟩, Nat.le_refl _, by omega, fun _ h => nomatch h⟩
  rw [hC] at hcell
  obtain ⟨l, hl, hq, hx⟩ := els_of (w := w) (base := base) (f := f) (Q := Q) (sz := sz) a len fun i hi => by
    have h1 := hcell i hi
    rw [List.getElem?_eq_getElem (by omega)] at h1
    cases hq : w.cells? base (a.add (i * sz)) sz with
    | none => rw [hq] at h1; simp at h1
    | some cs =>
      rw [hq] at h1
      obtain ⟨c, hqc, rfl⟩ := hel _ _ _ (by simpa using h1)
      exact ⟨c, hqc, rfl⟩
  have hll : (l.flatMap f).length = len * sz := by rw [SX.flat_len hlen, hl]
  refine ⟨some a, len, cap', l, he, ⟨hll, fun hn => ⟨a, rfl, ?_, fun j u hu => ?_⟩⟩, by omega, by omega, hq⟩
  · obtain ⟨c, hc⟩ : ∃ c, l[0]? = some c := ⟨_, List.getElem?_eq_getElem (by omega)⟩
    have := World.cells?_block (hx 0 c hc) (by omega)
    rwa [block_of_add] at this
  have hj : j < len * sz := by
    have := (List.getElem?_eq_some_iff.1 hu).1
    rwa [hll] at this
  have hd : j / sz < len := Nat.div_lt_of_lt_mul (by rw [Nat.mul_comm]; exact hj)
  have hm : j % sz < sz := Nat.mod_lt _ h0
  obtain ⟨c, hc⟩ : ∃ c, l[j / sz]? = some c := ⟨_, List.getElem?_eq_getElem (by omega)⟩
  have hw := hx _ c hc
  have hjj : j / sz * sz + j % sz = j := by rw [Nat.mul_comm]; exact Nat.div_add_mod j sz
  have h4 : (f c)[j % sz]? = some u := by
    rw [← hjj, ← List.getElem?_drop, SX.flat_elem hlen hc, List.getElem?_append_left (by rw [hlen]; exact hm)] at hu
    exact hu
  obtain ⟨_, _, h5⟩ := World.cells?_some hw
  have h6 := (h5 (j % sz) hm).trans h4
  have h7 : (a.add (j / sz * sz)).add (j % sz) = a.add j := by rw [Addr.add_add, hjj]
  rw [h7] at h6
  exact h6
theorem u8_cell {n : Nat} {cs : List Value} {y : DataW H × List MemPlace} (hf : DataW.trod enc Tryd.prog w base sp held n 5 cs = some y) : ∃ b : W8, True ∧ cs = c8 b := by
  obtain ⟨n, e, _, hw⟩ := DataW.trod_int Tryd.underlying5 hf
  have hb := bounds_u8 hw
  refine ⟨BitVec.ofNat 8 n.toNat, trivial, e.trans ?_⟩
  show [Value.int .u8 n] = [Value.int .u8 ((BitVec.ofNat 8 n.toNat).toNat : Int)]
  rw [BitVec.toNat_ofNat]
  congr 2
  omega
theorem u8s_of {n : Nat} {cs : List Value} {y : DataW H × List MemPlace} (hf : DataW.trod enc Tryd.prog w base sp held n 23 cs = some y) : ∃ (A : Option Addr) (k cap : Nat) (l : List W8), cs = [.slice A k cap] ∧ Rd w 1 A k (l.flatMap c8) ∧ k ≤ cap ∧ cap ≤ maxLen := by
  obtain ⟨A, k, cap, l, h1, h2, h3, h4, _⟩ := slice_of (f := c8) (sz := 1) (Q := fun _ => True) Tryd.underlying23 (by kernel_rfl) (by decide) (fun _ => rfl) (fun n cs y h => u8_cell h) hf
  exact ⟨A, k, cap, l, h1, h2, h3, h4⟩
theorem dig_cells {n : Nat} {cs : List Value} {y : DataW H × List MemPlace} (hf : DataW.trod enc Tryd.prog w base sp held n 35 cs = some y) : ∃ f : Nat → W8, cs = (List.range 32).map fun j => w8 (f j) := by
  obtain ⟨xs, m, _, _, hlen, hl, hx⟩ := DataW.trod_array Tryd.underlying35 hf
  have hC : Tryd.prog.cellsOf 35 = 32 := by kernel_rfl
  have hE : Tryd.prog.cellsOf 5 = 1 := by kernel_rfl
  rw [hC] at hlen
  have hb : ∀ j, j < 32 → ∃ b : W8, cs[j]? = some (w8 b) := fun j hj => by
    have g := (hx j hj).trans (List.getElem?_eq_getElem (by omega))
    rw [hE, Nat.mul_one] at g
    obtain ⟨b, _, e⟩ := u8_cell g
    exact ⟨b, take_at e⟩
  refine ⟨fun j => if h : j < 32 then (hb j h).choose else 0, ?_⟩
  apply List.ext_getElem?
  intro j
  by_cases hj : j < 32
  · rw [(hb j hj).choose_spec, List.getElem?_map, List.getElem?_range hj]
    simp only [Option.map_some, dif_pos hj]
  rw [List.getElem?_eq_none (by omega), List.getElem?_eq_none (by rw [List.length_map, List.length_range]; omega)]
theorem i64_wf {a : Int} (h : (Lit.int .i64 a).wf = true) : -9223372036854775808 ≤ a ∧ a ≤ 9223372036854775807 := by
  have h : (decide (IntKind.i64.min ≤ a) && decide (a ≤ IntKind.i64.max)) = true := h
  rw [Bool.and_eq_true, decide_eq_true_eq, decide_eq_true_eq] at h
  exact ⟨h.1, h.2⟩
theorem i64_at {t : TypeId} {fuel off : Nat} {cs : List Value} (hu : Tryd.prog.underlying t = some (.int .i64)) {y : DataW H × List MemPlace} (h : DataW.trod enc Tryd.prog w base sp held fuel t ((cs.drop off).take 1) = some y) : ∃ n, cs[off]? = some (.int .i64 n) ∧ (-9223372036854775808 ≤ n ∧ n ≤ 9223372036854775807) := by
  obtain ⟨n, e, _, hw⟩ := DataW.trod_int hu h
  exact ⟨n, take_at e, i64_wf hw⟩
theorem sb_of (l : List W8) : ∃ tx : ByteArray, sb tx = l := ⟨bt l, sb_bt l⟩
def LkOk (w : World) (z : Lk) : Prop := z.rd w ∧ z.num
theorem link_cells {n : Nat} {cs : List Value} {y : DataW H × List MemPlace} (hf : DataW.trod enc Tryd.prog w base sp held n 37 cs = some y) : ∃ z : Lk, LkOk w z ∧ cs = cellsLk z := by
  obtain ⟨xs, n, _, _, hlen, hl, hx⟩ := DataW.trod_struct Tryd.underlying37 hf
  have hC : Tryd.prog.cellsOf 37 = 35 := by kernel_rfl
  rw [hC] at hlen
  have hl' : xs.length = 4 := hl
  have g0 : DataW.trod enc Tryd.prog w base sp held n 3 ((cs.drop 0).take 1) = some (xs[0]'(by omega)) := (hx 0 _ rfl).trans (List.getElem?_eq_getElem _)
  obtain ⟨v0, e0, b0⟩ := i64_at Tryd.underlying3 g0
  have g1 : DataW.trod enc Tryd.prog w base sp held n 3 ((cs.drop 1).take 1) = some (xs[1]'(by omega)) := (hx 1 _ rfl).trans (List.getElem?_eq_getElem _)
  obtain ⟨v1, e1, b1⟩ := i64_at Tryd.underlying3 g1
  have g2 : DataW.trod enc Tryd.prog w base sp held n 35 ((cs.drop 2).take 32) = some (xs[2]'(by omega)) := (hx 2 _ rfl).trans (List.getElem?_eq_getElem _)
  obtain ⟨f, e2⟩ := dig_cells g2
  have g3 : DataW.trod enc Tryd.prog w base sp held n 23 ((cs.drop 34).take 1) = some (xs[3]'(by omega)) := (hx 3 _ rfl).trans (List.getElem?_eq_getElem _)
  obtain ⟨A, k, cap, l, e3, hr, hk, _⟩ := u8s_of g3
  obtain ⟨tx, rfl⟩ := sb_of l
  refine ⟨⟨v0, v1, f, A, k, cap, tx⟩, ⟨⟨hr, hk⟩, b0, b1⟩, ?_⟩
  show cs = [.int .i64 v0, .int .i64 v1] ++ (List.range 32).map (fun j => w8 (f j)) ++ [.slice A k cap]
  have h0 : cs = cs.take 2 ++ ((cs.drop 2).take 32 ++ cs.drop 34) := by
    rw [show cs.drop 34 = (cs.drop 2).drop 32 by rw [List.drop_drop], List.take_append_drop, List.take_append_drop]
  have h1 : cs.take 2 = [.int .i64 v0, .int .i64 v1] := by
    apply List.ext_getElem?
    intro i
    rw [List.getElem?_take]
    split
    · have hc : i = 0 ∨ i = 1 := by omega
      rcases hc with rfl | rfl
      · exact e0
      exact e1
    rw [List.getElem?_eq_none (by show 2 ≤ i; omega)]
  have h2 : cs.drop 34 = [.slice A k cap] := by
    rw [← e3, List.take_of_length_le (by simp; omega)]
  rw [h0, h1, e2, h2, List.append_assoc]
theorem open_links (hd : DataW.Trod enc Tryd.prog w base sp held 22 v d ps) : ∃ (A : Option Addr) (n cap : Nat) (l : List Lk), v.cells.toList = [.slice A n cap] ∧ Rd w 35 A n (lkL l) ∧ n ≤ cap ∧ cap ≤ maxLen ∧ ∀ z ∈ l, LkOk w z := by
  obtain ⟨fuel, hf⟩ := hd
  exact slice_of (f := cellsLk) (sz := 35) (Q := LkOk w) Tryd.underlying22 (by kernel_rfl) (by decide) (fun _ => rfl) (fun n cs y h => link_cells h) hf
theorem v_slice {r : Reach} {b0 : Nat} {t e : TypeId} (hu : Tryd.prog.underlying t = some (.slice e)) (hval : Value.okWide Tryd.prog w r b0 t v) {A : Option Addr} {n cap : Nat} (h : v.cells.toList = [.slice A n cap]) : v = .slice A n cap := by
  obtain ⟨A', n', c', rfl⟩ := okWide_slice hu hval
  simpa [Value.cells] using h
end
def laidL : List (String × DataW Unit) := [("kinesphere/digest.start", Rows.laid_kinesphere_digest_start), ("kinesphere/digest.numbers", Rows.laid_kinesphere_digest_numbers)]
theorem gStart : Tryd.prog.globalNamed "kinesphere/digest.start" = some 0 := by kernel_rfl
theorem gNums : Tryd.prog.globalNamed "kinesphere/digest.numbers" = some 1 := by kernel_rfl
theorem laid_world {W : World} (h : laidMetH Tryd.prog laidL W) : Laid W := by
  rw [MakeChecks.laidMetH_plain _ _ _ (by kernel_rfl)] at h
  have h0 : laidMet Tryd.prog (("kinesphere/digest.start", Lib.tabData .u32 (startS.cells.map fun v => match v with | .int _ i => i | _ => 0)) :: [("kinesphere/digest.numbers", Rows.laid_kinesphere_digest_numbers)]) W := cast (by kernel_rfl) h
  have h1 : laidMet Tryd.prog (("kinesphere/digest.numbers", Lib.tabData .u32 (numbersK.map fun x => (x.toNat : Int))) :: []) W := cast (by kernel_rfl) (laidMet.tail h0)
  have T0 := Lib.tabIs_of_head gStart (t := 71) (e := 70) (n := 8) (by kernel_rfl) Tryd.underlying71 Tryd.underlying70 (by kernel_rfl) (by kernel_rfl) h0
  have T1 := Lib.tabIs_of_head gNums (t := 84) (e := 70) (n := 64) (by kernel_rfl) Tryd.underlying84 Tryd.underlying70 (by kernel_rfl) (by kernel_rfl) h1
  have lt : ∀ {b : Nat} {v : Value}, W.cell? ⟨b, 0, none⟩ = some v → b < W.heap.size := fun {b v} h1 => by
    unfold World.cell? at h1
    cases hb : W.heap[b]? with
    | none => simp only [hb] at h1; simp at h1
    | some o => exact (Array.getElem?_eq_some_iff.1 hb).1
  have ad : ∀ b j : Nat, (⟨b, 0, none⟩ : Addr).add j = ⟨b, j, none⟩ := fun b j => by unfold Addr.add; split <;> simp_all
  refine ⟨⟨rfl, fun _ => ⟨_, rfl, lt (T0.cell gStart 0 (by decide)), fun j u hu => ?_⟩⟩, ⟨by rw [SX.flat_len c32_len]; rfl, fun _ => ⟨_, rfl, lt (T1.cell gNums 0 (by decide)), fun j u hu => ?_⟩⟩⟩
  · have hj : j < 8 := (List.getElem?_eq_some_iff.1 hu).1
    rw [ad, T0.cell gStart j (by rw [List.length_map]; exact hj), ← hu]
    have : ∀ j, j < 8 → some (Value.int .u32 ((startS.cells.map fun v => match v with | .int _ i => i | _ => 0).getD j 0)) = startS.cells[j]? := by
      intro j hj
      match j, hj with
      | 0, _ => rfl
      | 1, _ => rfl
      | 2, _ => rfl
      | 3, _ => rfl
      | 4, _ => rfl
      | 5, _ => rfl
      | 6, _ => rfl
      | 7, _ => rfl
    exact this j hj
  have hj : j < 64 := by have := (List.getElem?_eq_some_iff.1 hu).1; rw [SX.flat_len c32_len] at this; exact this
  rw [ad, T1.cell gNums j (by rw [List.length_map]; exact hj), ← hu, flat_c32, List.getElem?_map, List.getD_eq_getElem?_getD, List.getElem?_map, List.getElem?_eq_getElem (show j < numbersK.length from hj)]
  rfl
theorem door_met (os : Os) (args : Array Value) : laidMetH Tryd.prog laidL ((World.doorLaid Tryd.prog 400 os).forCall (fun _ _ => 0) ⟨#[], args, []⟩).memory :=
  laidMetH_of_parts3 (fuel := 8) (laidMet_of_run' 8 (by kernel_rfl) (by kernel_rfl)) (by kernel_rfl) (by kernel_rfl)
end Go.Proofs.YtdamlaegboiokaaDoor
namespace Go.Proofs.YtdamlaegboiokaaDoor
open Go Go.RowKit
theorem or128q : ∀ x : BitVec 8, (x ||| 128#8).toNat % 128 = x.toNat % 128 ∧ 128 ≤ (x ||| 128#8).toNat := by decide
theorem numB_inj (a : Nat) : ∀ (b : Nat) (x y : List W8), numB a ++ x = numB b ++ y → a = b ∧ x = y := by
  induction a using Nat.strongRecOn with
  | ind a ih =>
    intro b x y h
    have e : ∀ u : Nat, (BitVec.ofNat 8 u).toNat = u % 256 := fun u => by simp
    by_cases h1 : a < 128 <;> by_cases h2 : b < 128
    · rw [numB_lt h1, numB_lt h2, List.singleton_append, List.singleton_append] at h
      injection h with h3 h4
      have := congrArg BitVec.toNat h3
      rw [e, e] at this
      exact ⟨by omega, h4⟩
    · rw [numB_lt h1, numB_ge h2, List.singleton_append, List.cons_append] at h
      injection h with h3 h4
      have := congrArg BitVec.toNat h3
      have h5 := (or128q (BitVec.ofNat 8 b)).2
      rw [e] at this
      omega
    · rw [numB_lt h2, numB_ge h1, List.singleton_append, List.cons_append] at h
      injection h with h3 h4
      have := congrArg BitVec.toNat h3
      have h5 := (or128q (BitVec.ofNat 8 a)).2
      rw [e] at this
      omega
    rw [numB_ge h1, numB_ge h2, List.cons_append, List.cons_append] at h
    injection h with h3 h4
    have := congrArg BitVec.toNat h3
    have h5 := (or128q (BitVec.ofNat 8 a)).1
    have h6 := (or128q (BitVec.ofNat 8 b)).1
    rw [e] at h5 h6
    obtain ⟨h7, h8⟩ := ih (a / 128) (by omega) (b / 128) x y h4
    exact ⟨by omega, h8⟩
theorem unsN_inj {a b : Int} (h : unsN a = unsN b) : a = b := by
  unfold unsN at h
  split at h <;> split at h <;> omega
theorem encn_inj {a b : Int} {x y : List W8} (h : encF (.n a) ++ x = encF (.n b) ++ y) : a = b ∧ x = y := by
  simp only [encF, List.cons_append] at h
  injection h with _ h
  obtain ⟨h1, h2⟩ := numB_inj _ _ _ _ h
  exact ⟨unsN_inj h1, h2⟩
theorem encs_inj {a b : ByteArray} {x y : List W8} (h : encF (.s a) ++ x = encF (.s b) ++ y) : a = b ∧ x = y := by
  simp only [encF, List.cons_append, List.append_assoc] at h
  injection h with _ h
  obtain ⟨h1, h2⟩ := numB_inj _ _ _ _ h
  obtain ⟨h3, h4⟩ := List.append_inj h2 (by rw [sb_len, sb_len, h1])
  exact ⟨by rw [← bt_sb a, ← bt_sb b, h3], h4⟩
theorem encLk_inj {y z : Lk} (h : encL (flLk y) = encL (flLk z)) : slE y z := by
  unfold encL at h
  injection h with _ h
  obtain ⟨_, h⟩ := numB_inj _ _ _ _ h
  simp only [flLk, List.flatMap_cons, List.flatMap_nil] at h
  obtain ⟨h1, h⟩ := encn_inj h
  obtain ⟨h2, h⟩ := encn_inj h
  obtain ⟨h3, h⟩ := encs_inj h
  obtain ⟨h4, h⟩ := encs_inj h
  exact ⟨h1, h2, bt_inj h3, h4⟩
theorem clash_no {a b : List Lk} (h : clashB a b = false) (h2 : dgL (headF a) = dgL (headF b)) : textB a = textB b := by
  refine Classical.byContradiction fun k => ?_
  unfold clashB at h
  exact absurd ⟨.inr k, h2⟩ (of_decide_eq_false h)
theorem equal_to {la lb : List Lk} (ha : chkE la = 0) (hb : chkE lb = 0) (hl : la.length = lb.length) (hc : ∀ i, 1 ≤ i → i ≤ la.length → clashB (la.take i) (lb.take i) = false) : ∀ k, k ≤ la.length → dgL (headF (la.take k)) = dgL (headF (lb.take k)) → sameTo la lb k
  | 0, _, _ => sameTo_zero _ _
  | k + 1, hk, hh => by
    obtain ⟨y, hy⟩ : ∃ y, la[k]? = some y := ⟨_, List.getElem?_eq_getElem (by omega)⟩
    obtain ⟨z, hz⟩ : ∃ z, lb[k]? = some z := ⟨_, List.getElem?_eq_getElem (by omega)⟩
    have ht := clash_no (hc (k + 1) (by omega) hk) hh
    rw [(text_last (ls := la.take (k + 1)) (z := y) (by rw [List.length_take, show min (k + 1) la.length - 1 = k by omega, List.getElem?_take_of_lt (by omega)]; exact hy)).2, (text_last (ls := lb.take (k + 1)) (z := z) (by rw [List.length_take, show min (k + 1) lb.length - 1 = k by omega, List.getElem?_take_of_lt (by omega)]; exact hz)).2] at ht
    have hs := encLk_inj ht
    have h1 := (chkE_to ha k y (by omega) hy).2.2.2.2.2
    have h2 := (chkE_to hb k z (by omega) hz).2.2.2.2.2
    exact sameTo_succ (equal_to ha hb hl hc k (by omega) (by rw [← h1, ← h2]; exact hs.2.2.1)) hy hz hs
theorem equal_law {la lb : List Lk} (ha : chkE la = 0) (hb : chkE lb = 0) (hl : la.length = lb.length) (hh : dgL (headF la) = dgL (headF lb)) (hc : ∀ i, 1 ≤ i → i ≤ la.length → clashB (la.take i) (lb.take i) = false) : sameB la lb = true :=
  sameB_yes ⟨hl, equal_to ha hb hl hc la.length (Nat.le_refl _) (by rw [List.take_length, hl, List.take_length]; exact hh)⟩
theorem no_succ {P : Nat → Prop} {i : Nat} (h : ∀ j, 1 ≤ j → j < i → P j) (hi : P i) : ∀ j, 1 ≤ j → j < i + 1 → P j := fun j h1 h2 => by
  by_cases e : j = i
  · exact e ▸ hi
  exact h j h1 (by omega)
def tree_equal : SX.Tree :=
(.df (.call 8 []) [] .one
(.df .not [(.q 2)] .one
(.br 3 []
(.ret (.k (.bool false)) [] [])
(.df (.call 9 [(.ext 35)]) [(.q 0)] .one
(.df .not [(.q 4)] .one
(.br 5 []
(.ret (.k (.bool true)) [] [])
(.df (.call 9 [(.ext 35)]) [(.q 1)] .one
(.df .not [(.q 6)] .one
(.br 7 []
(.ret (.k (.bool true)) [] [])
(.df (.call 16 [(.ext 35)]) [(.q 0)] .one
(.df (.bin .neq 26) [(.q 8), (.i 0)] .one
(.br 9 []
(.ret (.k (.bool true)) [] [])
(.df (.call 16 [(.ext 35)]) [(.q 1)] .one
(.df (.bin .neq 26) [(.q 10), (.i 0)] .one
(.br 11 []
(.ret (.k (.bool true)) [] [])
(.df (.len false) [(.q 0)] .one
(.df (.len false) [(.q 1)] .one
(.df (.bin .neq 3) [(.q 12), (.q 13)] .one
(.br 14 []
(.ret (.k (.bool true)) [] [])
(.df (.call 15 [(.ext 35)]) [(.q 0)] (.ag 32)
(.df (.call 15 [(.ext 35)]) [(.q 1)] (.ag 32)
(.df (.eqr true 32 [(.i .u8), (.i .u8), (.i .u8), (.i .u8), (.i .u8), (.i .u8), (.i .u8), (.i .u8), (.i .u8), (.i .u8), (.i .u8), (.i .u8), (.i .u8), (.i .u8), (.i .u8), (.i .u8), (.i .u8), (.i .u8), (.i .u8), (.i .u8), (.i .u8), (.i .u8), (.i .u8), (.i .u8), (.i .u8), (.i .u8), (.i .u8), (.i .u8), (.i .u8), (.i .u8), (.i .u8), (.i .u8)]) (SX.Y 15 0 32 ++ SX.Y 16 0 32) .one
(.br 17 []
(.ret (.k (.bool true)) [] [])
(.df (.call 14 [(.ext 35), (.ext 35)]) [(.q 0), (.q 1)] .one
(.br 18 []
(.ret (.k (.bool true)) [] [])
(.loop [(.i 1)] [.one]
(.df (.len false) [(.q 0)] .one
(.df (.bin .leq 3) [(.q 19), (.q 20)] .one
(.br 21 []
(.df (.slc false 35 false true false) [(.q 0), (.q 19)] .one
(.df (.slc false 35 false true false) [(.q 1), (.q 19)] .one
(.df (.call 17 [(.ext 35), (.ext 35)]) [(.q 22), (.q 23)] .one
(.br 24 []
(.ret (.k (.bool true)) [] [])
(.df (.bin .add 3) [(.q 19), (.i 1)] .one
(.again 0 [(.q 25)]))))))
(.ret (.k (.bool false)) [] []))))))))))))))))))))))))))))))
def args_equal : List SX.V := [.x 0 [], .x 1 []]
set_option maxRecDepth 100000 in
theorem run_equal (K A : Value → Nat → List Value → Prop) : (SX.run (cxQD K A) ⟨fun f => true, [⟨5, 8, [(.s 5, .one)]⟩], 0, 100⟩ 100000 0 (SX.door 5 Tryd.f5 args_equal [.one, .one]) [.code (Tryd.f5.body.getD .skip), .top Tryd.f5]).strip = tree_equal := by kernel_rfl
set_option maxRecDepth 100000 in
set_option maxHeartbeats 4000000 in
theorem equal_any (la : List Lk) (A : Option Addr) (n c : Nat) (lb : List Lk) (B : Option Addr) (m d : Nat) (w : World) (hr : Rd w 35 A n (lkL la)) (hc : n ≤ c) (hn : n ≤ 9223372036854775807) (hd : ∀ z ∈ la, z.rd w) (hnum : ∀ z ∈ la, z.num) (hr2 : Rd w 35 B m (lkL lb)) (hc2 : m ≤ d) (hn2 : m ≤ 9223372036854775807) (hd2 : ∀ z ∈ lb, z.rd w) (hnum2 : ∀ z ∈ lb, z.num) (hlaid : Laid w) : Calls Tryd.prog 5 #[.slice A n c, .slice B m d] w fun e w' => e = .returned (.bool true) ∧ Below w.heap.size w w' := by
  refine SX.calls_of_run (C := cxQD (K2 A n c la B m d lb) (fun _ _ _ => False)) (G := ⟨fun f => true, [⟨5, 8, [(.s 5, .one)]⟩], 0, 100⟩) (args := args_equal) (sh := [.one, .one]) (ρ := [.slice A n c, .slice B m d]) 100000 tree_equal (okQD _ _) Tryd.func5 rfl (run_equal _ _) (by kernel_rfl) (by kernel_rfl) (by kernel_rfl) ?_ ?_
  · rintro W hW s sz cells (h | h)
    · exact KL_rd hW hr hd hlaid s sz cells h
    exact KL_rd hW hr2 hd2 hlaid s sz cells h
  have hA := SX.rd_some hr
  have hlc : (lkL la).length = n * 35 := hr.1
  have hln : la.length = n := by rw [lkL_len] at hlc; omega
  have hB := SX.rd_some hr2
  have hlc2 : (lkL lb).length = m * 35 := hr2.1
  have hlm : lb.length = m := by rw [lkL_len] at hlc2; omega
  unfold tree_equal
  refine SX.E (.bool true) (fun α => ⟨[], trivial, .inl ⟨rfl, K2_laid _ _ _ _ _ _ _ _, rfl, rfl⟩, SX.noAli rfl⟩) ?_
  refine SX.D (.bool (!(true))) ?_
  refine SX.B (!(true)) (fun h3 => absurd h3 (by decide)) (fun h3 => ?_)
  try simp only [NRM] at h3
  refine SX.VC_df (.bool (fewB la)) (fun α => ⟨[⟨.slice A n c, 35, lkL la⟩], ⟨by kernel_rfl, by kernel_rfl, .inl (.inl (SX.SubK.full hlc hc)), trivial⟩, .inr (.inl ⟨rfl, _, la, rfl, K2_laid _ _ _ _ _ _ _ _, by omega, rfl⟩), SX.noAli rfl⟩) ((by kernel_rfl)) ?_
  refine SX.D (.bool (!(fewB la))) ?_
  refine SX.B (!(fewB la)) (fun h5 => ?_) (fun h5 => ?_)
  · try simp only [NRM] at h5
    exact SX.F (.bool true) (rfl)
  try simp only [NRM] at h5
  refine SX.VC_df (.bool (fewB lb)) (fun α => ⟨[⟨.slice B m d, 35, lkL lb⟩], ⟨by kernel_rfl, by kernel_rfl, .inr (.inl (SX.SubK.full hlc2 hc2)), trivial⟩, .inr (.inl ⟨rfl, _, lb, rfl, K2_laid _ _ _ _ _ _ _ _, by omega, rfl⟩), SX.noAli rfl⟩) ((by kernel_rfl)) ?_
  refine SX.D (.bool (!(fewB lb))) ?_
  refine SX.B (!(fewB lb)) (fun h7 => ?_) (fun h7 => ?_)
  · try simp only [NRM] at h7
    exact SX.F (.bool true) (rfl)
  try simp only [NRM] at h7
  have hfit := few_fit (by simpa using h5) hd hnum
  have hfit2 := few_fit (by simpa using h7) hd2 hnum2
  have hn16 : n ≤ 16 := by have h0 := (fewB_iff.1 (by simpa using h5 : fewB la = true)).1; omega
  have hm16 : m ≤ 16 := by have h0 := (fewB_iff.1 (by simpa using h7 : fewB lb = true)).1; omega
  refine SX.VC_df (.int .i64 ((chkE la))) (fun α => ⟨[⟨.slice A n c, 35, lkL la⟩], ⟨by kernel_rfl, by kernel_rfl, .inl (.inl (SX.SubK.full hlc hc)), trivial⟩, .inr (.inr (.inr (.inr (.inr (.inl ⟨rfl, _, la, rfl, K2_laid _ _ _ _ _ _ _ _, by omega, fun y hy => ⟨.inl (.inl (KL_data hy)), hfit y hy⟩, rfl⟩))))), SX.noAli rfl⟩) ((by kernel_rfl)) ?_
  refine SX.D (.bool (((chkE la) : Int) != 0)) ?_
  refine SX.B (((chkE la) : Int) != 0) (fun h9 => ?_) (fun h9 => ?_)
  · try simp only [NRM] at h9
    exact SX.F (.bool true) (rfl)
  try simp only [NRM] at h9
  refine SX.VC_df (.int .i64 ((chkE lb))) (fun α => ⟨[⟨.slice B m d, 35, lkL lb⟩], ⟨by kernel_rfl, by kernel_rfl, .inr (.inl (SX.SubK.full hlc2 hc2)), trivial⟩, .inr (.inr (.inr (.inr (.inr (.inl ⟨rfl, _, lb, rfl, K2_laid _ _ _ _ _ _ _ _, by omega, fun y hy => ⟨.inl (.inr (KL_data hy)), hfit2 y hy⟩, rfl⟩))))), SX.noAli rfl⟩) ((by kernel_rfl)) ?_
  refine SX.D (.bool (((chkE lb) : Int) != 0)) ?_
  refine SX.B (((chkE lb) : Int) != 0) (fun h11 => ?_) (fun h11 => ?_)
  · try simp only [NRM] at h11
    exact SX.F (.bool true) (rfl)
  try simp only [NRM] at h11
  refine SX.D (.int .i64 (((n : Nat) : Int))) ?_
  refine SX.D (.int .i64 (((m : Nat) : Int))) ?_
  refine SX.D (.bool ((((n : Nat) : Int) : Int) != ((m : Nat) : Int))) ?_
  refine SX.B ((((n : Nat) : Int) : Int) != ((m : Nat) : Int)) (fun h14 => ?_) (fun h14 => ?_)
  · try simp only [NRM] at h14
    exact SX.F (.bool true) (rfl)
  try simp only [NRM] at h14
  have h14n : (n : Int) = (m : Int) := by simpa using h14
  have hnm : n = m := by omega
  refine SX.VC_df (dgV (headF la)) (fun α => ⟨[⟨.slice A n c, 35, lkL la⟩], ⟨by kernel_rfl, by kernel_rfl, .inl (.inl (SX.SubK.full hlc hc)), trivial⟩, .inr (.inr (.inr (.inr (.inr (.inr (.inl ⟨rfl, _, la, rfl, K2_laid _ _ _ _ _ _ _ _, by omega, fun y hy => ⟨.inl (.inl (KL_data hy)), hfit y hy⟩, rfl⟩)))))), SX.noAli rfl⟩) ((dgV_fit _)) ?_
  refine SX.VC_df (dgV (headF lb)) (fun α => ⟨[⟨.slice B m d, 35, lkL lb⟩], ⟨by kernel_rfl, by kernel_rfl, .inr (.inl (SX.SubK.full hlc2 hc2)), trivial⟩, .inr (.inr (.inr (.inr (.inr (.inr (.inl ⟨rfl, _, lb, rfl, K2_laid _ _ _ _ _ _ _ _, by omega, fun y hy => ⟨.inl (.inr (KL_data hy)), hfit2 y hy⟩, rfl⟩)))))), SX.noAli rfl⟩) ((dgV_fit _)) ?_
  refine SX.E (.bool (true ^^ decide (dgL (headF la) = dgL (headF lb)))) (fun α => SX.eqr_rel (f := (fun l : List W8 => l.map w8)) w8_map_inj (y := dgL (headF la)) (z := dgL (headF lb)) (by kernel_rfl) (by kernel_rfl) (by kernel_rfl)) ?_
  refine SX.B (true ^^ decide (dgL (headF la) = dgL (headF lb))) (fun h17 => ?_) (fun h17 => ?_)
  · try simp only [NRM] at h17
    exact SX.F (.bool true) (rfl)
  try simp only [NRM] at h17
  refine SX.E (.bool (sameB la lb)) (fun α => ⟨[⟨.slice A n c, 35, lkL la⟩, ⟨.slice B m d, 35, lkL lb⟩], ⟨by kernel_rfl, by kernel_rfl, K_of (y := ⟨.slice A n c, 35, lkL la⟩) (by kernel_rfl) (.inl (.inl (SX.SubK.full hlc hc))), by kernel_rfl, by kernel_rfl, K_of (y := ⟨.slice B m d, 35, lkL lb⟩) (by kernel_rfl) (.inr (.inl (SX.SubK.full hlc2 hc2))), trivial⟩, .inr (.inr (.inr (.inl ⟨rfl, _, _, la, lb, rfl, K2_laid _ _ _ _ _ _ _ _, by omega, by omega, fun y hy => ⟨.inl (.inl (KL_data hy)), hfit y hy⟩, fun y hy => ⟨.inl (.inr (KL_data hy)), hfit2 y hy⟩, rfl⟩))), SX.noAli rfl⟩) ?_
  refine SX.B (sameB la lb) (fun h18 => ?_) (fun h18 => ?_)
  · try simp only [NRM] at h18
    exact SX.F (.bool true) (rfl)
  try simp only [NRM] at h18
  refine SX.VC_loop (fun xs => ∃ (i : Nat), xs = [.int .i64 (i : Int)] ∧ 1 ≤ i ∧ i ≤ n + 1 ∧ ∀ j, 1 ≤ j → j < i → clashB (la.take j) (lb.take j) = false) (fun xs => match xs with | .int _ i :: _ => n + 1 - i.toNat | _ => 0) (fun α => ⟨1, by kernel_rfl, by omega, by omega, fun j h1 h2 => by omega⟩) ?_
  rintro xs - ⟨i, rfl, hi1, hin, hno⟩
  refine SX.D (.int .i64 (((n : Nat) : Int))) ?_
  refine SX.D (.bool (decide (((i : Nat) : Int) ≤ ((n : Nat) : Int)))) ?_
  refine SX.B (decide (((i : Nat) : Int) ≤ ((n : Nat) : Int))) (fun h21 => ?_) (fun h21 => absurd (equal_law (by simpa using h9) (by simpa using h11) (by rw [hln, hlm]; exact hnm) (by simpa using h17) fun j h1 h2 => hno j h1 (by have h3 := of_decide_eq_false h21; omega)) (by rw [show sameB la lb = false by simpa using h18]; decide))
  try simp only [NRM] at h21
  refine SX.E ((SX.subS A 35 0 i c)) (fun α => SX.slc_hi (A := A) (n := n) (c := c) (k := i) (by kernel_rfl) (by kernel_rfl) (by omega)) ?_
  refine SX.E ((SX.subS B 35 0 i d)) (fun α => SX.slc_hi (A := B) (n := m) (c := d) (k := i) (by kernel_rfl) (by kernel_rfl) (by omega)) ?_
  refine SX.E (.bool (clashB (la.take i) (lb.take i))) (fun α => ⟨[⟨SX.subS A 35 0 i c, 35, lkL (la.take i)⟩, ⟨SX.subS B 35 0 i d, 35, lkL (lb.take i)⟩], ⟨by kernel_rfl, by kernel_rfl, K_of (y := ⟨SX.subS A 35 0 i c, 35, lkL (la.take i)⟩) (by kernel_rfl) (.inl (KL_take (by omega) hc)), by kernel_rfl, by kernel_rfl, K_of (y := ⟨SX.subS B 35 0 i d, 35, lkL (lb.take i)⟩) (by kernel_rfl) (.inr (KL_take (by omega) hc2)), trivial⟩, .inr (.inr (.inr (.inr (.inr (.inr (.inr (⟨rfl, _, _, (la.take i), (lb.take i), rfl, K2_laid _ _ _ _ _ _ _ _, by rw [List.length_take]; omega, by rw [List.length_take]; omega, fun y hy => ⟨.inl (.inl (KL_data (List.mem_of_mem_take hy))), hfit y (List.mem_of_mem_take hy)⟩, fun y hy => ⟨.inl (.inr (KL_data (List.mem_of_mem_take hy))), hfit2 y (List.mem_of_mem_take hy)⟩, rfl⟩))))))), SX.noAli rfl⟩) ?_
  refine SX.B (clashB (la.take i) (lb.take i)) (fun h24 => ?_) (fun h24 => ?_)
  · try simp only [NRM] at h24
    exact SX.F (.bool true) (rfl)
  try simp only [NRM] at h24
  refine SX.E (.int .i64 (((i + 1 : Nat) : Int))) (fun α => SX.W1 i) ?_
  exact SX.VC_again fun α => ⟨⟨i + 1, by kernel_rfl, by omega, by omega, no_succ hno (by simpa using h24)⟩, cast (by kernel_rfl) (show n + 1 - ((i + 1 : Nat) : Int).toNat < n + 1 - (i : Int).toNat by omega)⟩
end Go.Proofs.YtdamlaegboiokaaDoor
namespace Go.Proofs.YtdamlaegboiokaaDoor.chainEqual
open Go Go.ChangeShapes Go.WideShapes Go.ChangeAt Go.RowKit
set_option maxRecDepth 100000 in
theorem lifted (os : Os) (started : os.Started) (H : Type) (enc : TypeId × Value → H) :
    ReturnsInHanded {} Tryd.checked os 5 .any (fun w args => (Rows.chainEqualSpec.pre enc Tryd.prog Tryd.f5 [] false w args ∧ laidMetH Tryd.prog laidL w) ∧ sizedMet enc Tryd.prog Tryd.f5 (OpenSpec.ofChange Rows.chainEqualSpec) false w args)
      (Rows.chainEqualSpec.post enc Tryd.prog Tryd.f5 false true false false) := by
  refine returnsInHanded_of_change_and (C := Tryd.checked) (X := fun w _ => laidMetH Tryd.prog laidL w) (fun _ _ _ hh h => h.of_heap hh) ownK started (by kernel_rfl) Tryd.func5
    (ChangeSpec.witness_shaped (enc := enc) (C := Tryd.checked) (os := os) (X := fun w _ => laidMetH Tryd.prog laidL w) false (World.doorLaid Tryd.prog 400 os) #[.slice none 0 0, .slice none 0 0] 8 rfl (World.shaped_of_RefB (by kernel_rfl) (by kernel_rfl)) (by kernel_rfl) (by kernel_rfl) (by kernel_rfl) (door_met os _)) ?_
  intro W base args ds gs before hval0 hW _ _ hL _
  have hval : ∀ (j : Nat) t v, Tryd.f5.params[j]? = some t → args[j]? = some v → Value.okWide Tryd.prog W .any base t v := hval0
  have hW' := hW
  obtain ⟨p, q, hA0, hV, rfl, hfz, hnd⟩ := hW
  have hA : DataW.TrodAll enc Tryd.prog W 0 (fun _ => true) true Tryd.f5.params.toList args.toList ds p := hA0
  rw [Tryd.params5] at hA hval
  obtain ⟨v0, vs0, d0, ds0, p0, q0, hargs, rfl, rfl, h0, r0⟩ := trodAll_cons hA
  obtain ⟨v1, vs1, d1, ds1, p1, q1, rfl, rfl, rfl, h1, r1⟩ := trodAll_cons r0
  obtain ⟨rfl, rfl, rfl⟩ := trodAll_nil r1
  obtain rfl : args = #[v0, v1] := by cases args; simp_all
  obtain ⟨rfl, rfl⟩ := trodVars_none hV
  obtain ⟨A0, n0, c0, l0, e0, hr0, hc0, hm0, hq0⟩ := open_links h0
  obtain rfl := v_slice Tryd.underlying22 (hval 0 22 v0 rfl rfl) e0
  rw [max_eq] at hm0
  obtain ⟨A1, n1, c1, l1, e1, hr1, hc1, hm1, hq1⟩ := open_links h1
  obtain rfl := v_slice Tryd.underlying22 (hval 1 22 v1 rfl rfl) e1
  rw [max_eq] at hm1
  clear hA0 hval0
  have hlaid := laid_world hL
  refine (equal_any l0 A0 n0 c0 l1 A1 n1 c1 W hr0 hc0 (by omega) (fun z hz => (hq0 z hz).1) (fun z hz => (hq0 z hz).2) hr1 hc1 (by omega) (fun z hz => (hq1 z hz).1) (fun z hz => (hq1 z hz).2) hlaid).mono fun e W' ⟨he, hb⟩ => ?_
  subst he
  exact ⟨_, rfl, law_post laidOut (by kernel_rfl) rfl hW' hb rfl rfl Tryd.underlying4⟩
theorem over : Rows.chainEqualRow.holds Tryd.pinned (OpenSpec.ofChange Rows.chainEqualSpec) :=
  OpenClaim.holds_of_wide 5 Tryd.f5 rfl rfl rfl rfl rfl rfl rfl ⟨rfl, rfl, rfl, rfl, rfl⟩ rfl rfl rfl rfl rfl (by kernel_rfl) Tryd.func5 (by kernel_rfl)
    (of_decide_eq_true (by kernel_rfl)) (by unfold Func.isWrapper; first | (rw [if_pos (by decide +kernel)]; kernel_rfl) | (rw [if_neg (by decide +kernel)]; exact ⟨rfl, rfl⟩))
    (fun os started H enc _ => lifted os started H enc)
theorem proved : Rows.ChainEqualCardSaid :=
  Claim7.holds_tied_plain_at .later [] [.data, .data] true (true, "521b2ca88230f32fb39facb778099429df77589fc8ba99baccf153ac95919c22") false
    over (fun _ h => by cases h) (by kernel_rfl) (fun _ h => by cases h) chainEqual_row_tie rfl ⟨rfl, rfl⟩ (by kernel_rfl) rfl
    (fun f fn hf hfn => by
      obtain rfl : f = 5 := Option.some.inj ((show Tryd.prog.funcNamed "kinesphere/kinespherelaw08.ChainEqual" = some 5 by kernel_rfl).symm.trans hf) |>.symm
      obtain rfl : fn = Tryd.f5 := (Option.some.inj (Tryd.func5.symm.trans hfn)).symm
      exact ⟨by kernel_rfl, fun j t ht => by
        rw [Tryd.params5] at ht
        have hm : t ∈ [22, 22] := by simpa using Array.mem_of_getElem? ht
        have hall : ([22, 22].all fun u => !Tryd.prog.wantsStandIn u) = true := by kernel_rfl
        exact (show Tryd.prog.wantsStandIn t = false by simpa using List.all_eq_true.1 hall t hm)⟩)
    (by kernel_rfl)
#print axioms proved
end Go.Proofs.YtdamlaegboiokaaDoor.chainEqual
