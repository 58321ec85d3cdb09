/-
  No cell of these rows narrows 'for every input' (looked for: loops, veiled, ifaces, maps, wideKeys, modest, calm, conditions, laid).
  DERIVED. THE GIVEN ROWS OF THIS SEAT. 7 by the template 'for every input the law returns true; each argument reads behind the call as it read before'; 0 by the template 'total and deterministic' (their statements: YtnaooclbphaelaaTotals.lean).
  GIVEN WITH THE SEED: the statements are not yours to turn. If you find one false, say at which input.
  Laid BY PROGRAM, IN A SANDBOX (cutbox-rows.mjs): the forced cells as the released guide's own fill.sh prints them over the translation 634a4ecddcdf2c86… (all of the seat's roots in one cut). By AI agents, Wed Nov 11 2026. No macro, syntax, notation, axiom, sorry.
-/
import Derived.Test.YtnaooclbphaelaaChecked
import GoSem.Claim
import GoSem.ClaimJoined
import GoSem.ClaimMapViews
import Derived.JoinedTies
import Derived.KernelRfl
namespace Go.Proofs.Ytnaooclbphaelaa
/- THE CELL 'sum', in the pinned program and in every row, IS THE sha256 OF THE DUMP (.gsa) THAT YtnaooclbphaelaaProg.lean LOADS. Nothing in Lean hashes anything: it is a label: what it is worth is what the hold of that sum in a sandbox is worth. -/
noncomputable def Try.pinned : Pinned := { name := "ytnaooclbphaelaa", sum := "634a4ecddcdf2c864efb6bb271e6c6ba93338bbdb24c7bd913bdad09b84212c5", checked := Try.checked }
namespace Rows
def none {H : Type} : Left H := { results := [], args := [] }

/-- 'kinespherelaw36.EditsSpec': WHATEVER THE INPUT: true; the input reads as it did. -/
def editsSpecSpec : ChangeSpec := { name := "editsSpec", fn := fun _ => fun
  | [d1, d2] => { results := [.lit (.bool true)], args := [d1, d2] }
  | _ => none }
def editsSpecRow : OpenClaim := { program := "ytnaooclbphaelaa", sum := "634a4ecddcdf2c864efb6bb271e6c6ba93338bbdb24c7bd913bdad09b84212c5", func := "kinesphere/kinespherelaw36.EditsSpec", spec := "editsSpec", inPlace := ["slices.overlaps[kinesphere/api.Sign]"], unfollowed := true, recurses := true, plainKeys := false, apart := false }
def EditsSpecSaid : Prop := editsSpecRow.holds Try.pinned (OpenSpec.ofChange editsSpecSpec)

/-- ITS FALSE NEIGHBOUR: 'it returns false'. Refute it at one input. -/
def editsSpecWrong : ChangeSpec := { name := "editsSpec", fn := fun _ => fun
  | [d1, d2] => { results := [.lit (.bool false)], args := [d1, d2] }
  | _ => none }
def EditsSpecWrongFalsely : Prop := editsSpecRow.holds Try.pinned (OpenSpec.ofChange editsSpecWrong)

/-- 'kinespherelaw36.EditsDiffSpec': WHATEVER THE INPUT: true; the input reads as it did. -/
def editsDiffSpecSpec : ChangeSpec := { name := "editsDiffSpec", fn := fun _ => fun
  | [d1, d2, d3, d4] => { results := [.lit (.bool true)], args := [d1, d2, d3, d4] }
  | _ => none }
def editsDiffSpecRow : OpenClaim := { program := "ytnaooclbphaelaa", sum := "634a4ecddcdf2c864efb6bb271e6c6ba93338bbdb24c7bd913bdad09b84212c5", func := "kinesphere/kinespherelaw36.EditsDiffSpec", spec := "editsDiffSpec", inPlace := ["slices.overlaps[kinesphere/api.Sign]"], unfollowed := true, recurses := true, plainKeys := false, apart := false }
def EditsDiffSpecSaid : Prop := editsDiffSpecRow.holds Try.pinned (OpenSpec.ofChange editsDiffSpecSpec)

/-- ITS FALSE NEIGHBOUR: 'it returns false'. Refute it at one input. -/
def editsDiffSpecWrong : ChangeSpec := { name := "editsDiffSpec", fn := fun _ => fun
  | [d1, d2, d3, d4] => { results := [.lit (.bool false)], args := [d1, d2, d3, d4] }
  | _ => none }
def EditsDiffSpecWrongFalsely : Prop := editsDiffSpecRow.holds Try.pinned (OpenSpec.ofChange editsDiffSpecWrong)

/-- 'kinespherelaw36.EditsTogether': WHATEVER THE INPUT: true; the input reads as it did. -/
def editsTogetherSpec : ChangeSpec := { name := "editsTogether", fn := fun _ => fun
  | [d1, d2, d3, d4, d5, d6, d7, d8] => { results := [.lit (.bool true)], args := [d1, d2, d3, d4, d5, d6, d7, d8] }
  | _ => none }
def editsTogetherRow : OpenClaim := { program := "ytnaooclbphaelaa", sum := "634a4ecddcdf2c864efb6bb271e6c6ba93338bbdb24c7bd913bdad09b84212c5", func := "kinesphere/kinespherelaw36.EditsTogether", spec := "editsTogether", inPlace := ["slices.overlaps[kinesphere/api.Sign]"], unfollowed := true, recurses := true, plainKeys := false, apart := false }
def EditsTogetherSaid : Prop := editsTogetherRow.holds Try.pinned (OpenSpec.ofChange editsTogetherSpec)

/-- ITS FALSE NEIGHBOUR: 'it returns false'. Refute it at one input. -/
def editsTogetherWrong : ChangeSpec := { name := "editsTogether", fn := fun _ => fun
  | [d1, d2, d3, d4, d5, d6, d7, d8] => { results := [.lit (.bool false)], args := [d1, d2, d3, d4, d5, d6, d7, d8] }
  | _ => none }
def EditsTogetherWrongFalsely : Prop := editsTogetherRow.holds Try.pinned (OpenSpec.ofChange editsTogetherWrong)

/-- 'kinespherelaw36.EditsPassage': WHATEVER THE INPUT: true; the input reads as it did. -/
def editsPassageSpec : ChangeSpec := { name := "editsPassage", fn := fun _ => fun
  | [d1, d2] => { results := [.lit (.bool true)], args := [d1, d2] }
  | _ => none }
def editsPassageRow : OpenClaim := { program := "ytnaooclbphaelaa", sum := "634a4ecddcdf2c864efb6bb271e6c6ba93338bbdb24c7bd913bdad09b84212c5", func := "kinesphere/kinespherelaw36.EditsPassage", spec := "editsPassage", inPlace := ["slices.overlaps[kinesphere/api.Sign]"], unfollowed := true, recurses := true, plainKeys := false, apart := false }
def EditsPassageSaid : Prop := editsPassageRow.holds Try.pinned (OpenSpec.ofChange editsPassageSpec)

/-- ITS FALSE NEIGHBOUR: 'it returns false'. Refute it at one input. -/
def editsPassageWrong : ChangeSpec := { name := "editsPassage", fn := fun _ => fun
  | [d1, d2] => { results := [.lit (.bool false)], args := [d1, d2] }
  | _ => none }
def EditsPassageWrongFalsely : Prop := editsPassageRow.holds Try.pinned (OpenSpec.ofChange editsPassageWrong)

/-- 'kinespherelaw36.EditsApart': WHATEVER THE INPUT: true; the input reads as it did. -/
def editsApartSpec : ChangeSpec := { name := "editsApart", fn := fun _ => fun
  | [d1, d2, d3] => { results := [.lit (.bool true)], args := [d1, d2, d3] }
  | _ => none }
def editsApartRow : OpenClaim := { program := "ytnaooclbphaelaa", sum := "634a4ecddcdf2c864efb6bb271e6c6ba93338bbdb24c7bd913bdad09b84212c5", func := "kinesphere/kinespherelaw36.EditsApart", spec := "editsApart", inPlace := ["slices.overlaps[kinesphere/api.Sign]"], unfollowed := true, recurses := true, plainKeys := false, apart := false }
def EditsApartSaid : Prop := editsApartRow.holds Try.pinned (OpenSpec.ofChange editsApartSpec)

/-- ITS FALSE NEIGHBOUR: 'it returns false'. Refute it at one input. -/
def editsApartWrong : ChangeSpec := { name := "editsApart", fn := fun _ => fun
  | [d1, d2, d3] => { results := [.lit (.bool false)], args := [d1, d2, d3] }
  | _ => none }
def EditsApartWrongFalsely : Prop := editsApartRow.holds Try.pinned (OpenSpec.ofChange editsApartWrong)

/-- 'kinespherelaw36.EditsDiff': WHATEVER THE INPUT: true; the input reads as it did. -/
def editsDiffSpec : ChangeSpec := { name := "editsDiff", fn := fun _ => fun
  | [d1, d2, d3] => { results := [.lit (.bool true)], args := [d1, d2, d3] }
  | _ => none }
def editsDiffRow : OpenClaim := { program := "ytnaooclbphaelaa", sum := "634a4ecddcdf2c864efb6bb271e6c6ba93338bbdb24c7bd913bdad09b84212c5", func := "kinesphere/kinespherelaw36.EditsDiff", spec := "editsDiff", inPlace := ["slices.overlaps[kinesphere/api.Sign]"], unfollowed := true, recurses := true, plainKeys := false, apart := false }
def EditsDiffSaid : Prop := editsDiffRow.holds Try.pinned (OpenSpec.ofChange editsDiffSpec)

/-- ITS FALSE NEIGHBOUR: 'it returns false'. Refute it at one input. -/
def editsDiffWrong : ChangeSpec := { name := "editsDiff", fn := fun _ => fun
  | [d1, d2, d3] => { results := [.lit (.bool false)], args := [d1, d2, d3] }
  | _ => none }
def EditsDiffWrongFalsely : Prop := editsDiffRow.holds Try.pinned (OpenSpec.ofChange editsDiffWrong)

/-- 'kinespherelaw36.EditsUndo': WHATEVER THE INPUT: true; the input reads as it did. -/
def editsUndoSpec : ChangeSpec := { name := "editsUndo", fn := fun _ => fun
  | [d1, d2, d3, d4, d5, d6] => { results := [.lit (.bool true)], args := [d1, d2, d3, d4, d5, d6] }
  | _ => none }
def editsUndoRow : OpenClaim := { program := "ytnaooclbphaelaa", sum := "634a4ecddcdf2c864efb6bb271e6c6ba93338bbdb24c7bd913bdad09b84212c5", func := "kinesphere/kinespherelaw36.EditsUndo", spec := "editsUndo", inPlace := ["slices.overlaps[kinesphere/api.Sign]"], unfollowed := true, recurses := true, plainKeys := false, apart := false }
def EditsUndoSaid : Prop := editsUndoRow.holds Try.pinned (OpenSpec.ofChange editsUndoSpec)

/-- ITS FALSE NEIGHBOUR: 'it returns false'. Refute it at one input. -/
def editsUndoWrong : ChangeSpec := { name := "editsUndo", fn := fun _ => fun
  | [d1, d2, d3, d4, d5, d6] => { results := [.lit (.bool false)], args := [d1, d2, d3, d4, d5, d6] }
  | _ => none }
def EditsUndoWrongFalsely : Prop := editsUndoRow.holds Try.pinned (OpenSpec.ofChange editsUndoWrong)

/- THE SECOND FORM. 'bulk': how many values and letters a reading holds, each counted each time it is reached (what is shared counts as often as it is met; a slice's spare places count too). A statement '..UptoSaid' is the law's where the arguments, and the package variables that the reading takes, are together of bulk at most 1048576: NARROWER than '..Said'. Prove '..Said' where nothing that the law and all that it calls make is longer than what came in: it says more and counts as full. Else prove '..UptoSaid'. A law counts once. -/
mutual
def uptoBulk {H : Type} : DataW H → Nat
  | .lit (.string bytes) => bytes.length + 1
  | .lit _ => 1
  | .nil => 1
  | .ptr d => uptoBulk d + 1
  | .slice elems spare => uptoBulkAll elems + uptoBulkAll spare + 1
  | .agg parts => uptoBulkAll parts + 1
  | .iface _ d => uptoBulk d + 1
  | .map entries => uptoBulkEntries entries + 1
  | .held _ => 1
def uptoBulkAll {H : Type} : List (DataW H) → Nat
  | [] => 0
  | d :: r => uptoBulk d + uptoBulkAll r
def uptoBulkEntries {H : Type} : List (Lit × DataW H) → Nat
  | [] => 0
  | x :: r => uptoBulkEntry x + uptoBulkEntries r
def uptoBulkEntry {H : Type} : Lit × DataW H → Nat
  | (.string bytes, d) => bytes.length + uptoBulk d + 1
  | (_, d) => uptoBulk d + 1
 end
def uptoSmall : (H : Type) → List (DataW H) → Bool := fun _ ds => decide (uptoBulkAll ds ≤ 1048576)
def OpenSpec.upto (s : _root_.Go.ChangeSpec) : _root_.Go.OpenSpec := { _root_.Go.OpenSpec.ofChange s with cond := some uptoSmall }

/-- 'kinespherelaw36.EditsSpec', WHERE WHAT IT READS IS OF BULK AT MOST 1048576: true; the input reads as it did. -/
def editsSpecUptoRow : OpenClaim := { program := "ytnaooclbphaelaa", sum := "634a4ecddcdf2c864efb6bb271e6c6ba93338bbdb24c7bd913bdad09b84212c5", func := "kinesphere/kinespherelaw36.EditsSpec", spec := "editsSpec", inPlace := ["slices.overlaps[kinesphere/api.Sign]"], unfollowed := true, recurses := true, plainKeys := false, apart := false, narrowed := true }
def EditsSpecUptoSaid : Prop := editsSpecUptoRow.holds Try.pinned (OpenSpec.upto editsSpecSpec)

/-- 'kinespherelaw36.EditsDiffSpec', WHERE WHAT IT READS IS OF BULK AT MOST 1048576: true; the input reads as it did. -/
def editsDiffSpecUptoRow : OpenClaim := { program := "ytnaooclbphaelaa", sum := "634a4ecddcdf2c864efb6bb271e6c6ba93338bbdb24c7bd913bdad09b84212c5", func := "kinesphere/kinespherelaw36.EditsDiffSpec", spec := "editsDiffSpec", inPlace := ["slices.overlaps[kinesphere/api.Sign]"], unfollowed := true, recurses := true, plainKeys := false, apart := false, narrowed := true }
def EditsDiffSpecUptoSaid : Prop := editsDiffSpecUptoRow.holds Try.pinned (OpenSpec.upto editsDiffSpecSpec)

/-- 'kinespherelaw36.EditsTogether', WHERE WHAT IT READS IS OF BULK AT MOST 1048576: true; the input reads as it did. -/
def editsTogetherUptoRow : OpenClaim := { program := "ytnaooclbphaelaa", sum := "634a4ecddcdf2c864efb6bb271e6c6ba93338bbdb24c7bd913bdad09b84212c5", func := "kinesphere/kinespherelaw36.EditsTogether", spec := "editsTogether", inPlace := ["slices.overlaps[kinesphere/api.Sign]"], unfollowed := true, recurses := true, plainKeys := false, apart := false, narrowed := true }
def EditsTogetherUptoSaid : Prop := editsTogetherUptoRow.holds Try.pinned (OpenSpec.upto editsTogetherSpec)

/-- 'kinespherelaw36.EditsPassage', WHERE WHAT IT READS IS OF BULK AT MOST 1048576: true; the input reads as it did. -/
def editsPassageUptoRow : OpenClaim := { program := "ytnaooclbphaelaa", sum := "634a4ecddcdf2c864efb6bb271e6c6ba93338bbdb24c7bd913bdad09b84212c5", func := "kinesphere/kinespherelaw36.EditsPassage", spec := "editsPassage", inPlace := ["slices.overlaps[kinesphere/api.Sign]"], unfollowed := true, recurses := true, plainKeys := false, apart := false, narrowed := true }
def EditsPassageUptoSaid : Prop := editsPassageUptoRow.holds Try.pinned (OpenSpec.upto editsPassageSpec)

/-- 'kinespherelaw36.EditsApart', WHERE WHAT IT READS IS OF BULK AT MOST 1048576: true; the input reads as it did. -/
def editsApartUptoRow : OpenClaim := { program := "ytnaooclbphaelaa", sum := "634a4ecddcdf2c864efb6bb271e6c6ba93338bbdb24c7bd913bdad09b84212c5", func := "kinesphere/kinespherelaw36.EditsApart", spec := "editsApart", inPlace := ["slices.overlaps[kinesphere/api.Sign]"], unfollowed := true, recurses := true, plainKeys := false, apart := false, narrowed := true }
def EditsApartUptoSaid : Prop := editsApartUptoRow.holds Try.pinned (OpenSpec.upto editsApartSpec)

/-- 'kinespherelaw36.EditsDiff', WHERE WHAT IT READS IS OF BULK AT MOST 1048576: true; the input reads as it did. -/
def editsDiffUptoRow : OpenClaim := { program := "ytnaooclbphaelaa", sum := "634a4ecddcdf2c864efb6bb271e6c6ba93338bbdb24c7bd913bdad09b84212c5", func := "kinesphere/kinespherelaw36.EditsDiff", spec := "editsDiff", inPlace := ["slices.overlaps[kinesphere/api.Sign]"], unfollowed := true, recurses := true, plainKeys := false, apart := false, narrowed := true }
def EditsDiffUptoSaid : Prop := editsDiffUptoRow.holds Try.pinned (OpenSpec.upto editsDiffSpec)

/-- 'kinespherelaw36.EditsUndo', WHERE WHAT IT READS IS OF BULK AT MOST 1048576: true; the input reads as it did. -/
def editsUndoUptoRow : OpenClaim := { program := "ytnaooclbphaelaa", sum := "634a4ecddcdf2c864efb6bb271e6c6ba93338bbdb24c7bd913bdad09b84212c5", func := "kinesphere/kinespherelaw36.EditsUndo", spec := "editsUndo", inPlace := ["slices.overlaps[kinesphere/api.Sign]"], unfollowed := true, recurses := true, plainKeys := false, apart := false, narrowed := true }
def EditsUndoUptoSaid : Prop := editsUndoUptoRow.holds Try.pinned (OpenSpec.upto editsUndoSpec)

end Rows
end Go.Proofs.Ytnaooclbphaelaa
