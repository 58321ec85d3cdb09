/-
  No cell of these rows narrows 'for every input' (looked for: loops, veiled, ifaces, maps, wideKeys, modest, calm, conditions, laid).
  DERIVED. THE GIVEN ROWS OF THIS SEAT. 7 by the template 'for every input the law returns true; each argument reads behind the call as it read before'; 0 by the template 'total and deterministic' (their statements: YtodlcjhefojibaaTotals.lean).
  GIVEN WITH THE SEED: the statements are not yours to turn. If you find one false, say at which input.
  Laid BY PROGRAM, IN A SANDBOX (cutbox-rows.mjs): the forced cells as the released guide's own fill.sh prints them over the translation c1c1d610bf9cdefe… (all of the seat's roots in one cut). By AI agents, Wed Nov 11 2026. No macro, syntax, notation, axiom, sorry.
-/
import Derived.Test.YtodlcjhefojibaaChecked
import GoSem.Claim
import GoSem.ClaimJoined
import GoSem.ClaimMapViews
import Derived.JoinedTies
import Derived.KernelRfl
namespace Go.Proofs.Ytodlcjhefojibaa
/- THE CELL 'sum', in the pinned program and in every row, IS THE sha256 OF THE DUMP (.gsa) THAT YtodlcjhefojibaaProg.lean LOADS. Nothing in Lean hashes anything: it is a label: what it is worth is what the hold of that sum in a sandbox is worth. -/
noncomputable def Try.pinned : Pinned := { name := "ytodlcjhefojibaa", sum := "c1c1d610bf9cdefe09c00e012022f400174729a899039754500426452a44daea", checked := Try.checked }
namespace Rows
def none {H : Type} : Left H := { results := [], args := [] }

/-- 'kinespherelaw37.PatchSpec': WHATEVER THE INPUT: true; the input reads as it did. -/
def patchSpecSpec : ChangeSpec := { name := "patchSpec", fn := fun _ => fun
  | [d1, d2] => { results := [.lit (.bool true)], args := [d1, d2] }
  | _ => none }
def patchSpecRow : OpenClaim := { program := "ytodlcjhefojibaa", sum := "c1c1d610bf9cdefe09c00e012022f400174729a899039754500426452a44daea", func := "kinesphere/kinespherelaw37.PatchSpec", spec := "patchSpec", unfollowed := true, recurses := true, apart := false }
def PatchSpecSaid : Prop := patchSpecRow.holds Try.pinned (OpenSpec.ofChange patchSpecSpec)

/-- ITS FALSE NEIGHBOUR: 'it returns false'. Refute it at one input. -/
def patchSpecWrong : ChangeSpec := { name := "patchSpec", fn := fun _ => fun
  | [d1, d2] => { results := [.lit (.bool false)], args := [d1, d2] }
  | _ => none }
def PatchSpecWrongFalsely : Prop := patchSpecRow.holds Try.pinned (OpenSpec.ofChange patchSpecWrong)

/-- 'kinespherelaw37.PatchRunSpec': WHATEVER THE INPUT: true; the input reads as it did. -/
def patchRunSpecSpec : ChangeSpec := { name := "patchRunSpec", fn := fun _ => fun
  | [d1, d2] => { results := [.lit (.bool true)], args := [d1, d2] }
  | _ => none }
def patchRunSpecRow : OpenClaim := { program := "ytodlcjhefojibaa", sum := "c1c1d610bf9cdefe09c00e012022f400174729a899039754500426452a44daea", func := "kinesphere/kinespherelaw37.PatchRunSpec", spec := "patchRunSpec", unfollowed := true, recurses := true, apart := false }
def PatchRunSpecSaid : Prop := patchRunSpecRow.holds Try.pinned (OpenSpec.ofChange patchRunSpecSpec)

/-- ITS FALSE NEIGHBOUR: 'it returns false'. Refute it at one input. -/
def patchRunSpecWrong : ChangeSpec := { name := "patchRunSpec", fn := fun _ => fun
  | [d1, d2] => { results := [.lit (.bool false)], args := [d1, d2] }
  | _ => none }
def PatchRunSpecWrongFalsely : Prop := patchRunSpecRow.holds Try.pinned (OpenSpec.ofChange patchRunSpecWrong)

/-- 'kinespherelaw37.PatchPairSpec': WHATEVER THE INPUT: true; the input reads as it did. -/
def patchPairSpecSpec : ChangeSpec := { name := "patchPairSpec", fn := fun _ => fun
  | [d1, d2, d3, d4] => { results := [.lit (.bool true)], args := [d1, d2, d3, d4] }
  | _ => none }
def patchPairSpecRow : OpenClaim := { program := "ytodlcjhefojibaa", sum := "c1c1d610bf9cdefe09c00e012022f400174729a899039754500426452a44daea", func := "kinesphere/kinespherelaw37.PatchPairSpec", spec := "patchPairSpec", unfollowed := true, recurses := true, apart := false }
def PatchPairSpecSaid : Prop := patchPairSpecRow.holds Try.pinned (OpenSpec.ofChange patchPairSpecSpec)

/-- ITS FALSE NEIGHBOUR: 'it returns false'. Refute it at one input. -/
def patchPairSpecWrong : ChangeSpec := { name := "patchPairSpec", fn := fun _ => fun
  | [d1, d2, d3, d4] => { results := [.lit (.bool false)], args := [d1, d2, d3, d4] }
  | _ => none }
def PatchPairSpecWrongFalsely : Prop := patchPairSpecRow.holds Try.pinned (OpenSpec.ofChange patchPairSpecWrong)

/-- 'kinespherelaw37.PatchUndone': WHATEVER THE INPUT: true; the input reads as it did. -/
def patchUndoneSpec : ChangeSpec := { name := "patchUndone", fn := fun _ => fun
  | [d1, d2, d3] => { results := [.lit (.bool true)], args := [d1, d2, d3] }
  | _ => none }
def patchUndoneRow : OpenClaim := { program := "ytodlcjhefojibaa", sum := "c1c1d610bf9cdefe09c00e012022f400174729a899039754500426452a44daea", func := "kinesphere/kinespherelaw37.PatchUndone", spec := "patchUndone", unfollowed := true, recurses := true, apart := false }
def PatchUndoneSaid : Prop := patchUndoneRow.holds Try.pinned (OpenSpec.ofChange patchUndoneSpec)

/-- ITS FALSE NEIGHBOUR: 'it returns false'. Refute it at one input. -/
def patchUndoneWrong : ChangeSpec := { name := "patchUndone", fn := fun _ => fun
  | [d1, d2, d3] => { results := [.lit (.bool false)], args := [d1, d2, d3] }
  | _ => none }
def PatchUndoneWrongFalsely : Prop := patchUndoneRow.holds Try.pinned (OpenSpec.ofChange patchUndoneWrong)

/-- 'kinespherelaw37.PatchIndependent': WHATEVER THE INPUT: true; the input reads as it did. -/
def patchIndependentSpec : ChangeSpec := { name := "patchIndependent", fn := fun _ => fun
  | [d1, d2, d3] => { results := [.lit (.bool true)], args := [d1, d2, d3] }
  | _ => none }
def patchIndependentRow : OpenClaim := { program := "ytodlcjhefojibaa", sum := "c1c1d610bf9cdefe09c00e012022f400174729a899039754500426452a44daea", func := "kinesphere/kinespherelaw37.PatchIndependent", spec := "patchIndependent", unfollowed := true, recurses := true, apart := false }
def PatchIndependentSaid : Prop := patchIndependentRow.holds Try.pinned (OpenSpec.ofChange patchIndependentSpec)

/-- ITS FALSE NEIGHBOUR: 'it returns false'. Refute it at one input. -/
def patchIndependentWrong : ChangeSpec := { name := "patchIndependent", fn := fun _ => fun
  | [d1, d2, d3] => { results := [.lit (.bool false)], args := [d1, d2, d3] }
  | _ => none }
def PatchIndependentWrongFalsely : Prop := patchIndependentRow.holds Try.pinned (OpenSpec.ofChange patchIndependentWrong)

/-- 'kinespherelaw37.PatchAlone': WHATEVER THE INPUT: true; the input reads as it did. -/
def patchAloneSpec : ChangeSpec := { name := "patchAlone", fn := fun _ => fun
  | [d1, d2, d3] => { results := [.lit (.bool true)], args := [d1, d2, d3] }
  | _ => none }
def patchAloneRow : OpenClaim := { program := "ytodlcjhefojibaa", sum := "c1c1d610bf9cdefe09c00e012022f400174729a899039754500426452a44daea", func := "kinesphere/kinespherelaw37.PatchAlone", spec := "patchAlone", unfollowed := true, recurses := true, apart := false }
def PatchAloneSaid : Prop := patchAloneRow.holds Try.pinned (OpenSpec.ofChange patchAloneSpec)

/-- ITS FALSE NEIGHBOUR: 'it returns false'. Refute it at one input. -/
def patchAloneWrong : ChangeSpec := { name := "patchAlone", fn := fun _ => fun
  | [d1, d2, d3] => { results := [.lit (.bool false)], args := [d1, d2, d3] }
  | _ => none }
def PatchAloneWrongFalsely : Prop := patchAloneRow.holds Try.pinned (OpenSpec.ofChange patchAloneWrong)

/-- 'kinespherelaw37.PatchDiff': WHATEVER THE INPUT: true; the input reads as it did. -/
def patchDiffSpec : ChangeSpec := { name := "patchDiff", fn := fun _ => fun
  | [d1, d2, d3, d4, d5] => { results := [.lit (.bool true)], args := [d1, d2, d3, d4, d5] }
  | _ => none }
def patchDiffRow : OpenClaim := { program := "ytodlcjhefojibaa", sum := "c1c1d610bf9cdefe09c00e012022f400174729a899039754500426452a44daea", func := "kinesphere/kinespherelaw37.PatchDiff", spec := "patchDiff", unfollowed := true, recurses := true, apart := false }
def PatchDiffSaid : Prop := patchDiffRow.holds Try.pinned (OpenSpec.ofChange patchDiffSpec)

/-- ITS FALSE NEIGHBOUR: 'it returns false'. Refute it at one input. -/
def patchDiffWrong : ChangeSpec := { name := "patchDiff", fn := fun _ => fun
  | [d1, d2, d3, d4, d5] => { results := [.lit (.bool false)], args := [d1, d2, d3, d4, d5] }
  | _ => none }
def PatchDiffWrongFalsely : Prop := patchDiffRow.holds Try.pinned (OpenSpec.ofChange patchDiffWrong)

/- THE SECOND FORM. 'bulk': how many values and letters a reading holds, each counted each time it is reached (what is shared counts as often as it is met; a slice's spare places count too). A statement '..UptoSaid' is the law's where the arguments, and the package variables that the reading takes, are together of bulk at most 1048576: NARROWER than '..Said'. Prove '..Said' where nothing that the law and all that it calls make is longer than what came in: it says more and counts as full. Else prove '..UptoSaid'. A law counts once. -/
mutual
def uptoBulk {H : Type} : DataW H → Nat
  | .lit (.string bytes) => bytes.length + 1
  | .lit _ => 1
  | .nil => 1
  | .ptr d => uptoBulk d + 1
  | .slice elems spare => uptoBulkAll elems + uptoBulkAll spare + 1
  | .agg parts => uptoBulkAll parts + 1
  | .iface _ d => uptoBulk d + 1
  | .map entries => uptoBulkEntries entries + 1
  | .held _ => 1
def uptoBulkAll {H : Type} : List (DataW H) → Nat
  | [] => 0
  | d :: r => uptoBulk d + uptoBulkAll r
def uptoBulkEntries {H : Type} : List (Lit × DataW H) → Nat
  | [] => 0
  | x :: r => uptoBulkEntry x + uptoBulkEntries r
def uptoBulkEntry {H : Type} : Lit × DataW H → Nat
  | (.string bytes, d) => bytes.length + uptoBulk d + 1
  | (_, d) => uptoBulk d + 1
 end
def uptoSmall : (H : Type) → List (DataW H) → Bool := fun _ ds => decide (uptoBulkAll ds ≤ 1048576)
def OpenSpec.upto (s : _root_.Go.ChangeSpec) : _root_.Go.OpenSpec := { _root_.Go.OpenSpec.ofChange s with cond := some uptoSmall }

/-- 'kinespherelaw37.PatchSpec', WHERE WHAT IT READS IS OF BULK AT MOST 1048576: true; the input reads as it did. -/
def patchSpecUptoRow : OpenClaim := { program := "ytodlcjhefojibaa", sum := "c1c1d610bf9cdefe09c00e012022f400174729a899039754500426452a44daea", func := "kinesphere/kinespherelaw37.PatchSpec", spec := "patchSpec", unfollowed := true, recurses := true, apart := false, narrowed := true }
def PatchSpecUptoSaid : Prop := patchSpecUptoRow.holds Try.pinned (OpenSpec.upto patchSpecSpec)

/-- 'kinespherelaw37.PatchRunSpec', WHERE WHAT IT READS IS OF BULK AT MOST 1048576: true; the input reads as it did. -/
def patchRunSpecUptoRow : OpenClaim := { program := "ytodlcjhefojibaa", sum := "c1c1d610bf9cdefe09c00e012022f400174729a899039754500426452a44daea", func := "kinesphere/kinespherelaw37.PatchRunSpec", spec := "patchRunSpec", unfollowed := true, recurses := true, apart := false, narrowed := true }
def PatchRunSpecUptoSaid : Prop := patchRunSpecUptoRow.holds Try.pinned (OpenSpec.upto patchRunSpecSpec)

/-- 'kinespherelaw37.PatchPairSpec', WHERE WHAT IT READS IS OF BULK AT MOST 1048576: true; the input reads as it did. -/
def patchPairSpecUptoRow : OpenClaim := { program := "ytodlcjhefojibaa", sum := "c1c1d610bf9cdefe09c00e012022f400174729a899039754500426452a44daea", func := "kinesphere/kinespherelaw37.PatchPairSpec", spec := "patchPairSpec", unfollowed := true, recurses := true, apart := false, narrowed := true }
def PatchPairSpecUptoSaid : Prop := patchPairSpecUptoRow.holds Try.pinned (OpenSpec.upto patchPairSpecSpec)

/-- 'kinespherelaw37.PatchUndone', WHERE WHAT IT READS IS OF BULK AT MOST 1048576: true; the input reads as it did. -/
def patchUndoneUptoRow : OpenClaim := { program := "ytodlcjhefojibaa", sum := "c1c1d610bf9cdefe09c00e012022f400174729a899039754500426452a44daea", func := "kinesphere/kinespherelaw37.PatchUndone", spec := "patchUndone", unfollowed := true, recurses := true, apart := false, narrowed := true }
def PatchUndoneUptoSaid : Prop := patchUndoneUptoRow.holds Try.pinned (OpenSpec.upto patchUndoneSpec)

/-- 'kinespherelaw37.PatchIndependent', WHERE WHAT IT READS IS OF BULK AT MOST 1048576: true; the input reads as it did. -/
def patchIndependentUptoRow : OpenClaim := { program := "ytodlcjhefojibaa", sum := "c1c1d610bf9cdefe09c00e012022f400174729a899039754500426452a44daea", func := "kinesphere/kinespherelaw37.PatchIndependent", spec := "patchIndependent", unfollowed := true, recurses := true, apart := false, narrowed := true }
def PatchIndependentUptoSaid : Prop := patchIndependentUptoRow.holds Try.pinned (OpenSpec.upto patchIndependentSpec)

/-- 'kinespherelaw37.PatchAlone', WHERE WHAT IT READS IS OF BULK AT MOST 1048576: true; the input reads as it did. -/
def patchAloneUptoRow : OpenClaim := { program := "ytodlcjhefojibaa", sum := "c1c1d610bf9cdefe09c00e012022f400174729a899039754500426452a44daea", func := "kinesphere/kinespherelaw37.PatchAlone", spec := "patchAlone", unfollowed := true, recurses := true, apart := false, narrowed := true }
def PatchAloneUptoSaid : Prop := patchAloneUptoRow.holds Try.pinned (OpenSpec.upto patchAloneSpec)

/-- 'kinespherelaw37.PatchDiff', WHERE WHAT IT READS IS OF BULK AT MOST 1048576: true; the input reads as it did. -/
def patchDiffUptoRow : OpenClaim := { program := "ytodlcjhefojibaa", sum := "c1c1d610bf9cdefe09c00e012022f400174729a899039754500426452a44daea", func := "kinesphere/kinespherelaw37.PatchDiff", spec := "patchDiff", unfollowed := true, recurses := true, apart := false, narrowed := true }
def PatchDiffUptoSaid : Prop := patchDiffUptoRow.holds Try.pinned (OpenSpec.upto patchDiffSpec)

end Rows
end Go.Proofs.Ytodlcjhefojibaa
