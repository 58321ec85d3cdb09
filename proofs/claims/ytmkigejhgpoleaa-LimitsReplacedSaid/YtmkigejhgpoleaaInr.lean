/-
  slices.Insert and slices.Clone at limits, as calls that hand back a row of one's own.
-/
import Derived.Test.YtmkigejhgpoleaaIns
import Derived.Test.YtmkigejhgpoleaaSx2
namespace Go.Proofs.Ytmkigejhgpoleaa
set_option linter.unusedSimpArgs false
set_option linter.unusedVariables false
open Go Go.RowKit
theorem setRow_same {W : World} {b : Nat} (c : Array Value) : Same [b] W (W.setRow b c) := ⟨by rw [size_setRow]; exact Nat.le_refl _, fun k _ hn => setRow_other _ _ _ _ (by simpa using hn)⟩
theorem drew_same {ids : List Nat} {W : World} : Same ids W W.drew := ⟨Nat.le_refl _, fun _ _ _ => rfl⟩
theorem insNew_to {k : Nat} {cells : List Value} {h : Value} {w : World} {e : Ending} {w' : World} (hl : cells.length = k * 9) (hn : InsNew k cells w e w') : ∃ h' b' tl', e = .returned h' ∧ w'.os = w.os ∧ w'.tape = w.tape ∧ w'.output = w.output ∧ Same (ownB h) w w' ∧ RowAt 9 h' b' 26 cells tl' w' ∧ (b' ∈ ownB h ∨ w.heap.size ≤ b') := by
  obtain ⟨cap, Z, h1, h2, h3, rfl, h4, h5, h6, h7, h8⟩ := hn
  exact ⟨_, w.heap.size, Z, rfl, h4, h5, h6, ⟨h7.size, fun b hb _ => h7.block b hb (by simp)⟩, .inr ⟨k, cap, rfl, hl, by rw [List.length_append, hl, h3, ← Nat.add_mul]; congr 1; omega, h1, h2, h8⟩, .inr (Nat.le_refl _)⟩
/-- Insert takes a row -/
theorem insert_rc {C : SX.Cx} (hP : C.P = Try.prog) {cs0 : List SX.V} {i m mc vb voff : Nat} {old xs : List Value} (hi : i * 9 ≤ old.length) (hm : 0 < m) (hbig : (old.length + m) * 1000 ≤ 140737488355328) (h1c : ∀ u ∈ old, u.oneCell' = true) (h1v : ∀ u ∈ xs, u.oneCell' = true) :
    SX.RCall C 27 [.no, .own 9 cs0] [⟨.int .i64 (i : Int), 0, []⟩, ⟨.slice (some ⟨vb, voff, none⟩) m mc, 9, xs⟩] old 9 26 (.agg (old.take (i * 9) ++ xs ++ old.drop (i * 9)).toArray) := by
  intro W h b tl hrow hrd hK hpl
  rw [hP]
  have hx : ∀ W', Same (ownB h) W W' → Rd W' 9 (some ⟨vb, voff, none⟩) m xs := fun W' h' => (hrd ⟨.slice (some ⟨vb, voff, none⟩) m mc, 9, xs⟩ (by simp) W' h').1
  have hxl := (hx W (.refl _ _)).1
  have hcell : ∀ W', Same (ownB h) W W' → ∀ j u, xs[j]? = some u → W'.cell? ⟨vb, voff + j, none⟩ = some u := fun W' h' j u hu => by
    obtain ⟨ad, e, _, hc⟩ := (hx W' h').2 hm
    cases e
    have := hc j u hu
    rwa [Addr.add_lit] at this
  have hv := hcell W (.refl _ _)
  obtain ⟨vcs, vt, hvo⟩ := hpl (.own 9 cs0, ⟨.slice (some ⟨vb, voff, none⟩) m mc, 9, xs⟩) (by simp) rfl _ _ _ rfl
  have hx0 : ∃ u, xs[0]? = some u := ⟨_, List.getElem?_eq_getElem (by omega)⟩
  obtain ⟨u0, hu0⟩ := hx0
  have hcv : SX.cellsV (.agg (old.take (i * 9) ++ xs ++ old.drop (i * 9)).toArray) = old.take (i * 9) ++ xs ++ old.drop (i * 9) := rfl
  show Calls Try.prog _ #[h, .int .i64 (i : Int), .slice (some ⟨vb, voff, none⟩) m mc] W _
  rw [hcv]
  rcases hrow with ⟨rfl, rfl⟩ | ⟨len, cap, rfl, hl1, hl2, hlc, hcm, hat⟩
  · have hi0 : i = 0 := by simp at hi; omega
    subst hi0
    refine (ins_end_grow none 0 0 vb voff m mc [] xs W hm (Nat.le_refl _) (by omega) (by simp at hbig ⊢; omega) rfl hxl (fun _ => rfl) (fun _ h => nomatch h) hv h1v).mono fun e w' hn => ?_
    refine insNew_to (k := 0 + m) (by simp [hxl]) ?_
    simpa using hn
  · have hvb : vb ≠ b := fun e => by
      subst e
      have := hcell (W.setRow vb #[]) (setRow_same _) 0 u0 hu0
      rw [cell_of_row _ vb _ #[] _ (0, 0) (setRow_heap W vb _ #[] _ _ hat)] at this
      simp at this
    have hcs : ∀ j u, old[j]? = some u → W.cell? ⟨b, j, none⟩ = some u := fun j u hu => by
      rw [cell_of_row W b j _ _ (0, 0) hat]
      simp only [List.getElem?_toArray]
      rw [List.getElem?_append_left (List.getElem?_eq_some_iff.1 hu).1]; exact hu
    have hin : i ≤ len := by rw [hl1] at hi; omega
    have hb1000 : (len + m) * 1000 ≤ 140737488355328 := Nat.le_trans (Nat.mul_le_mul_right _ (by omega)) hbig
    have htl : (old.take (i * 9)).length = i * 9 := by rw [List.length_take]; omega
    have hdl : (old.drop (i * 9)).length = (len - i) * 9 := by rw [List.length_drop, hl1, Nat.sub_mul]
    have hll : (old.take (i * 9) ++ xs ++ old.drop (i * 9)).length = (len + m) * 9 := by
      simp only [List.length_append, htl, hdl, hxl]; omega
    by_cases hil : i = len
    · subst hil
      have e1 : old.take (i * 9) = old := List.take_of_length_le (by omega)
      have e2 : old.drop (i * 9) = [] := List.drop_eq_nil_of_le (by omega)
      rw [e1, e2, List.append_nil] at hll ⊢
      by_cases hroom : i + m ≤ cap
      · refine (ins_end_room b i cap vb voff m mc old tl xs W hm hroom hcm hl1 hl2 hxl hat hv h1v).mono fun e w' ⟨h1, h2⟩ => ?_
        subst h1; subst h2
        refine ⟨_, b, tl.drop xs.length, rfl, rfl, rfl, rfl, setRow_same _, .inr ⟨i + m, cap, rfl, hll, ?_, hroom, hcm, ?_⟩, .inl (List.mem_cons_self ..)⟩
        · simp only [List.length_append, List.length_drop] at hl2 hll ⊢; omega
        · rw [setRow_heap _ _ _ _ _ _ hat]
          have hle : xs.length ≤ tl.length := by rw [List.length_append] at hl2; omega
          rw [splice_list hl1.symm _ (by simpa using hle)]
          simp
      · refine (ins_end_grow (some b) i cap vb voff m mc old xs W hm hlc (by omega) hb1000 hl1 hxl (fun h => nomatch h) (fun b' e => by cases e; exact hcs) hv h1v).mono fun e w' hn => ?_
        exact insNew_to (k := i + m) hll hn
    · by_cases hroom : len + m ≤ cap
      · refine (ins_shift b len cap i vb voff m mc old tl xs vcs vt W (by omega) hm hroom hcm hvb hl1 hl2 hxl hat hv hvo h1c h1v).mono fun e w' ⟨h1, h2⟩ => ?_
        subst h1; subst h2
        have hs1 : W.drew.heap[b]? = some (.cells (old ++ tl).toArray 26 (0, 0)) := hat
        refine ⟨_, b, (old ++ tl).drop ((len + m) * 9), rfl, rfl, rfl, rfl, (drew_same.trans (setRow_same _)).trans (setRow_same _), .inr ⟨len + m, cap, rfl, hll, ?_, hroom, hcm, ?_⟩, .inl (List.mem_cons_self ..)⟩
        · rw [List.length_append, List.length_drop, hll, hl2]; omega
        · rw [setRow_heap _ _ _ _ _ _ (setRow_heap _ _ _ _ _ _ hs1)]
          have hle : (len + m) * 9 ≤ (old ++ tl).length := by rw [hl2]; omega
          have e1 : splice (old ++ tl).toArray ((i + m) * 9) (old.drop (i * 9)).toArray = ((old ++ tl).take ((i + m) * 9) ++ old.drop (i * 9) ++ (old ++ tl).drop ((len + m) * 9)).toArray := by
            unfold splice
            simp only [List.size_toArray, hdl]
            rw [show (i + m) * 9 + (len - i) * 9 = (len + m) * 9 by omega]
          have e2 : (old ++ tl).take ((i + m) * 9) = old.take (i * 9) ++ ((old ++ tl).drop (i * 9)).take (m * 9) := by
            rw [Nat.add_mul, List.take_add, List.take_append_of_le_length (by omega)]
          rw [e1, e2]
          have hlm : (((old ++ tl).drop (i * 9)).take (m * 9)).length = m * 9 := by rw [List.length_take, List.length_drop, hl2]; omega
          rw [show old.take (i * 9) ++ ((old ++ tl).drop (i * 9)).take (m * 9) ++ old.drop (i * 9) ++ (old ++ tl).drop ((len + m) * 9) = old.take (i * 9) ++ (((old ++ tl).drop (i * 9)).take (m * 9) ++ (old.drop (i * 9) ++ (old ++ tl).drop ((len + m) * 9))) by simp only [List.append_assoc]]
          rw [splice_list htl.symm _ (by simp only [List.length_append, hlm, List.size_toArray, hxl]; omega)]
          rw [List.size_toArray, hxl, List.drop_left' hlm]
          simp only [List.append_assoc]
      · refine (ins_grow b len cap i vb voff m mc old xs W (by omega) hm hlc (by omega) hb1000 hl1 hxl hcs h1c hv h1v).mono fun e w' hn => ?_
        exact insNew_to hll hn
end Go.Proofs.Ytmkigejhgpoleaa
