/-
  Small laws for walks: a contract that leaves old memory as it was, carried along a chain of worlds.
-/
import Derived.WalkKit
import Derived.Lib.Hide
namespace Go.Proofs.Ytmkigejhgpoleaa
set_option linter.unusedSimpArgs false
set_option linter.unusedVariables false
open Go Go.RowKit

theorem carry {P : Program} {f : FuncId} {args : Array Value} {w0 w : World} {v : Value} (hb : Below w0.heap.size w0 w)
    (h : Calls P f args w fun e w' => e = .returned v ∧ Below w.heap.size w w') :
    Calls P f args w fun e w' => e = .returned v ∧ Below w0.heap.size w0 w' :=
  h.mono fun _ _ ⟨he, h'⟩ => ⟨he, hb.trans (h'.mono hb.size)⟩

end Go.Proofs.Ytmkigejhgpoleaa
