/-
  edits.Apply: every kind but InsertE.
-/
import Derived.Test.YtnaooclbphaelaaEc
import Derived.Test.YtnaooclbphaelaaEd
import Derived.Test.YtnaooclbphaelaaEe
import Derived.Test.YtnaooclbphaelaaEf
import Derived.Test.YtnaooclbphaelaaEg
import Derived.Test.YtnaooclbphaelaaEh
import Derived.Test.YtnaooclbphaelaaEi
namespace Go.Proofs.Ytnaooclbphaelaa
set_option linter.unusedSimpArgs false
set_option linter.unusedVariables false
open Go Go.RowKit
theorem apply_any (ss : List Sg) (A : Option Addr) (n c : Nat) (d : Ed) (w : World) (hr : Rd w 14 A n (sgsL ss)) (hn : n ≤ 9223372036854775807) (hc : n ≤ c) (hd : d.kind ≠ 5) : Calls Try.prog 12 #[.slice A n c, valE d] w fun e w' => Below w.heap.size w w' ∧ ∃ hdr, e = .returned (.tuple #[hdr, .int .i64 (applyE d ss).2]) ∧ SX.SlRet w w' [] hdr 14 (sgsL (applyE d ss).1) := by
  by_cases h : 1 ≤ d.kind ∧ d.kind ≤ 7
  · obtain ⟨k, a1, a2, a3, a4, a5, a6, a7, a8⟩ := d
    simp only at h hd
    have hk : k = 1 ∨ k = 2 ∨ k = 3 ∨ k = 4 ∨ k = 6 ∨ k = 7 := by omega
    rcases hk with rfl | rfl | rfl | rfl | rfl | rfl
    · exact e1_any ss A n c a1 a2 a3 a4 a5 a6 a7 a8 w hr hn hc
    · exact e2_any ss A n c a1 a2 a3 a4 a5 a6 a7 a8 w hr hn hc
    · exact e3_any ss A n c a1 a2 a3 a4 a5 a6 a7 a8 w hr hn hc
    · exact e4_any ss A n c a1 a2 a3 a4 a5 a6 a7 a8 w hr hn hc
    · exact e6_any ss A n c a1 a2 a3 a4 a5 a6 a7 a8 w hr hn hc
    · exact e7_any ss A n c a1 a2 a3 a4 a5 a6 a7 a8 w hr hn hc
  · exact e0_any ss A n c d w hr hn hc h
end Go.Proofs.Ytnaooclbphaelaa
