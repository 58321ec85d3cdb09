/-
  law10's cards: what the listed variables hold; a slice of bytes as an argument.
-/
import Derived.Test.YtockbjpldlopiaaDoorLaw
import Derived.Test.YtockbjpldlopiaaDoorHj
import Derived.LaidMore
import Derived.Stop.Joined
import Derived.Stop.LaidErr
import Derived.Lib.LaidTab
import Derived.ChangeSlices
import Derived.MakeChecks
namespace Go.Proofs.YtockbjpldlopiaaDoor
set_option linter.unusedSimpArgs false
set_option linter.unusedVariables false
set_option maxRecDepth 20000
open Go Go.RowKit Go.ChangeShapes Go.WideShapes Go.ChangeAt
theorem open_bytes {H : Type} {enc : TypeId × Value → H} {W : World} {r : Reach} {b0 base : Nat} {sp : Nat → Bool} {held : Bool} {v : Value} {d : DataW H} {ps : List MemPlace} (hval : Value.okWide Tryd.prog W r b0 22 v) (hd : DataW.Trod enc Tryd.prog W base sp held 22 v d ps) : ∃ (A : Option Addr) (n c : Nat) (l : List W8), v = .slice A n c ∧ Rd W 1 A n (l.flatMap c8) ∧ n ≤ c ∧ c ≤ maxLen := by
  obtain ⟨A, n, c, rfl⟩ := okWide_slice Tryd.underlying22 hval
  obtain ⟨fuel, hf⟩ := hd
  rcases open_ints Tryd.underlying22 Tryd.underlying5 (by kernel_rfl) hf with ⟨hcs, hx⟩ | ⟨a, len', cap', zs, hcs, _, hl, hm, hz, hx, hcell, hwz⟩
  · simp [Value.cells] at hcs
    obtain ⟨rfl, rfl, rfl⟩ := hcs
    exact ⟨none, 0, 0, [], rfl, ⟨rfl, fun h => absurd h (by omega)⟩, Nat.le_refl _, Nat.zero_le _⟩
  · simp [Value.cells] at hcs
    obtain ⟨rfl, rfl, rfl⟩ := hcs
    have hzl : n ≤ zs.length := by rw [hz]; split <;> omega
    refine ⟨some a, n, c, (zs.take n).map fun z => BitVec.ofNat 8 z.toNat, rfl, ⟨?_, fun h0 => ⟨a, rfl, ?_, ?_⟩⟩, hl, hm⟩
    · rw [SX.flat_len c8_len]; simp; omega
    · have h1 := hcell 0 (by omega)
      have e : a.add 0 = a := by unfold Addr.add; simp
      rw [e] at h1
      unfold World.cell? at h1
      cases hb : W.heap[a.block]? with
      | none => rw [hb] at h1; simp at h1
      | some o => exact (Array.getElem?_eq_some_iff.1 hb).1
    · intro j u hu
      rw [flat_c8, List.getElem?_map, List.getElem?_map] at hu
      cases hj : (zs.take n)[j]? with
      | none => rw [hj] at hu; simp at hu
      | some z =>
        rw [hj] at hu
        simp only [Option.map_some, Option.some.injEq] at hu
        subst hu
        have hjl := (List.getElem?_eq_some_iff.1 hj).1
        simp only [List.length_take] at hjl
        have hzj : zs[j]? = some z := by rw [List.getElem?_take] at hj; split at hj; · exact hj
                                         · cases hj
        have h1 := hcell j (by omega)
        have hb := bounds_u8 (hwz z (List.mem_of_getElem? hzj))
        rw [h1, List.getD_eq_getElem?_getD, hzj]
        simp only [Option.getD_some, w8, BitVec.toNat_ofNat]
        congr 2
        omega
def laidL : List (String × DataW Unit) := [("kinesphere/digest.start", Rows.laid_kinesphere_digest_start), ("kinesphere/digest.numbers", Rows.laid_kinesphere_digest_numbers)]
theorem gStart : Tryd.prog.globalNamed "kinesphere/digest.start" = some 0 := by kernel_rfl
theorem gNums : Tryd.prog.globalNamed "kinesphere/digest.numbers" = some 1 := by kernel_rfl
theorem laid_world {W : World} (h : laidMetH Tryd.prog laidL W) : Laid W := by
  rw [MakeChecks.laidMetH_plain _ _ _ (by kernel_rfl)] at h
  have h0 : laidMet Tryd.prog (("kinesphere/digest.start", Lib.tabData .u32 (startS.cells.map fun v => match v with | .int _ i => i | _ => 0)) :: [("kinesphere/digest.numbers", Rows.laid_kinesphere_digest_numbers)]) W := cast (by kernel_rfl) h
  have h1 : laidMet Tryd.prog (("kinesphere/digest.numbers", Lib.tabData .u32 (numbersK.map fun x => (x.toNat : Int))) :: []) W := cast (by kernel_rfl) (laidMet.tail h0)
  have T0 := Lib.tabIs_of_head gStart (t := 44) (e := 43) (n := 8) (by kernel_rfl) Tryd.underlying44 Tryd.underlying43 (by kernel_rfl) (by kernel_rfl) h0
  have T1 := Lib.tabIs_of_head gNums (t := 56) (e := 43) (n := 64) (by kernel_rfl) Tryd.underlying56 Tryd.underlying43 (by kernel_rfl) (by kernel_rfl) h1
  have lt : ∀ {b : Nat} {v : Value}, W.cell? ⟨b, 0, none⟩ = some v → b < W.heap.size := fun {b v} h1 => by
    unfold World.cell? at h1
    cases hb : W.heap[b]? with
    | none => simp only [hb] at h1; simp at h1
    | some o => exact (Array.getElem?_eq_some_iff.1 hb).1
  have ad : ∀ b j : Nat, (⟨b, 0, none⟩ : Addr).add j = ⟨b, j, none⟩ := fun b j => by unfold Addr.add; split <;> simp_all
  refine ⟨⟨rfl, fun _ => ⟨_, rfl, lt (T0.cell gStart 0 (by decide)), fun j u hu => ?_⟩⟩, ⟨by rw [SX.flat_len c32_len]; rfl, fun _ => ⟨_, rfl, lt (T1.cell gNums 0 (by decide)), fun j u hu => ?_⟩⟩⟩
  · have hj : j < 8 := (List.getElem?_eq_some_iff.1 hu).1
    rw [ad, T0.cell gStart j (by rw [List.length_map]; exact hj), ← hu]
    have : ∀ j, j < 8 → some (Value.int .u32 ((startS.cells.map fun v => match v with | .int _ i => i | _ => 0).getD j 0)) = startS.cells[j]? := by
      intro j hj
      match j, hj with
      | 0, _ => rfl
      | 1, _ => rfl
      | 2, _ => rfl
      | 3, _ => rfl
      | 4, _ => rfl
      | 5, _ => rfl
      | 6, _ => rfl
      | 7, _ => rfl
    exact this j hj
  · have hj : j < 64 := by have := (List.getElem?_eq_some_iff.1 hu).1; rw [SX.flat_len c32_len] at this; exact this
    rw [ad, T1.cell gNums j (by rw [List.length_map]; exact hj), ← hu, flat_c32, List.getElem?_map, List.getD_eq_getElem?_getD, List.getElem?_map, List.getElem?_eq_getElem (show j < numbersK.length from hj)]
    rfl
theorem door_met (os : Os) (args : Array Value) : laidMetH Tryd.prog laidL ((World.doorLaid Tryd.prog 400 os).forCall (fun _ _ => 0) ⟨#[], args, []⟩).memory :=
  laidMetH_of_parts3 (fuel := 8) (laidMet_of_run' 8 (by kernel_rfl) (by kernel_rfl)) (by kernel_rfl) (by kernel_rfl)
end Go.Proofs.YtockbjpldlopiaaDoor
