/-
  No cell of these rows narrows 'for every input' (looked for: loops, veiled, ifaces, maps, wideKeys, modest, calm, conditions, laid).
  DERIVED. THE GIVEN ROWS OF THIS SEAT. 6 by the template 'for every input the law returns true; each argument reads behind the call as it read before'; 0 by the template 'total and deterministic' (their statements: YtklppgkolcpbbaaTotals.lean).
  GIVEN WITH THE SEED: the statements are not yours to turn. If you find one false, say at which input.
  Laid BY PROGRAM, IN A SANDBOX (cutbox-rows.mjs): the forced cells as the released guide's own fill.sh prints them over the translation 4a128c83d8d0352d… (all of the seat's roots in one cut). By AI agents, Wed Nov 11 2026. No macro, syntax, notation, axiom, sorry.
-/
import Derived.Test.YtklppgkolcpbbaaChecked
import GoSem.Claim
import GoSem.ClaimJoined
import GoSem.ClaimMapViews
import Derived.JoinedTies
import Derived.KernelRfl
namespace Go.Proofs.Ytklppgkolcpbbaa
/- THE CELL 'sum', in the pinned program and in every row, IS THE sha256 OF THE DUMP (.gsa) THAT YtklppgkolcpbbaaProg.lean LOADS. Nothing in Lean hashes anything: it is a label: what it is worth is what the hold of that sum in a sandbox is worth. -/
noncomputable def Try.pinned : Pinned := { name := "ytklppgkolcpbbaa", sum := "4a128c83d8d0352d5364d06ae5129fc4f425023db43f5cde5a0193b23670e4d4", checked := Try.checked }
namespace Rows
def none {H : Type} : Left H := { results := [], args := [] }

/-- 'kinespherelaw25.BodySpec': WHATEVER THE INPUT: true; the input reads as it did. -/
def bodySpecSpec : ChangeSpec := { name := "bodySpec", fn := fun _ => fun
  | [d1, d2] => { results := [.lit (.bool true)], args := [d1, d2] }
  | _ => none }
def bodySpecRow : OpenClaim := { program := "ytklppgkolcpbbaa", sum := "4a128c83d8d0352d5364d06ae5129fc4f425023db43f5cde5a0193b23670e4d4", func := "kinesphere/kinespherelaw25.BodySpec", spec := "bodySpec", inPlace := ["internal/bytealg.IndexByteString"], unfollowed := true, recurses := true, apart := false }
def BodySpecSaid : Prop := bodySpecRow.holds Try.pinned (OpenSpec.ofChange bodySpecSpec)

/-- ITS FALSE NEIGHBOUR: 'it returns false'. Refute it at one input. -/
def bodySpecWrong : ChangeSpec := { name := "bodySpec", fn := fun _ => fun
  | [d1, d2] => { results := [.lit (.bool false)], args := [d1, d2] }
  | _ => none }
def BodySpecWrongFalsely : Prop := bodySpecRow.holds Try.pinned (OpenSpec.ofChange bodySpecWrong)

/-- 'kinespherelaw25.BodyAllSpec': WHATEVER THE INPUT: true; the input reads as it did. -/
def bodyAllSpecSpec : ChangeSpec := { name := "bodyAllSpec", fn := fun _ => fun
  | [d1, d2, d3] => { results := [.lit (.bool true)], args := [d1, d2, d3] }
  | _ => none }
def bodyAllSpecRow : OpenClaim := { program := "ytklppgkolcpbbaa", sum := "4a128c83d8d0352d5364d06ae5129fc4f425023db43f5cde5a0193b23670e4d4", func := "kinesphere/kinespherelaw25.BodyAllSpec", spec := "bodyAllSpec", inPlace := ["internal/bytealg.IndexByteString"], unfollowed := true, recurses := true, apart := false }
def BodyAllSpecSaid : Prop := bodyAllSpecRow.holds Try.pinned (OpenSpec.ofChange bodyAllSpecSpec)

/-- ITS FALSE NEIGHBOUR: 'it returns false'. Refute it at one input. -/
def bodyAllSpecWrong : ChangeSpec := { name := "bodyAllSpec", fn := fun _ => fun
  | [d1, d2, d3] => { results := [.lit (.bool false)], args := [d1, d2, d3] }
  | _ => none }
def BodyAllSpecWrongFalsely : Prop := bodyAllSpecRow.holds Try.pinned (OpenSpec.ofChange bodyAllSpecWrong)

/-- 'kinespherelaw25.BodyGreatest': WHATEVER THE INPUT: true; the input reads as it did. -/
def bodyGreatestSpec : ChangeSpec := { name := "bodyGreatest", fn := fun _ => fun
  | [d1, d2, d3] => { results := [.lit (.bool true)], args := [d1, d2, d3] }
  | _ => none }
def bodyGreatestRow : OpenClaim := { program := "ytklppgkolcpbbaa", sum := "4a128c83d8d0352d5364d06ae5129fc4f425023db43f5cde5a0193b23670e4d4", func := "kinesphere/kinespherelaw25.BodyGreatest", spec := "bodyGreatest", inPlace := ["internal/bytealg.IndexByteString"], unfollowed := true, recurses := true, apart := false }
def BodyGreatestSaid : Prop := bodyGreatestRow.holds Try.pinned (OpenSpec.ofChange bodyGreatestSpec)

/-- ITS FALSE NEIGHBOUR: 'it returns false'. Refute it at one input. -/
def bodyGreatestWrong : ChangeSpec := { name := "bodyGreatest", fn := fun _ => fun
  | [d1, d2, d3] => { results := [.lit (.bool false)], args := [d1, d2, d3] }
  | _ => none }
def BodyGreatestWrongFalsely : Prop := bodyGreatestRow.holds Try.pinned (OpenSpec.ofChange bodyGreatestWrong)

/-- 'kinespherelaw25.BodyOrder': WHATEVER THE INPUT: true; the input reads as it did. -/
def bodyOrderSpec : ChangeSpec := { name := "bodyOrder", fn := fun _ => fun
  | [d1, d2, d3, d4] => { results := [.lit (.bool true)], args := [d1, d2, d3, d4] }
  | _ => none }
def bodyOrderRow : OpenClaim := { program := "ytklppgkolcpbbaa", sum := "4a128c83d8d0352d5364d06ae5129fc4f425023db43f5cde5a0193b23670e4d4", func := "kinesphere/kinespherelaw25.BodyOrder", spec := "bodyOrder", inPlace := ["internal/bytealg.IndexByteString"], unfollowed := true, recurses := true, apart := false }
def BodyOrderSaid : Prop := bodyOrderRow.holds Try.pinned (OpenSpec.ofChange bodyOrderSpec)

/-- ITS FALSE NEIGHBOUR: 'it returns false'. Refute it at one input. -/
def bodyOrderWrong : ChangeSpec := { name := "bodyOrder", fn := fun _ => fun
  | [d1, d2, d3, d4] => { results := [.lit (.bool false)], args := [d1, d2, d3, d4] }
  | _ => none }
def BodyOrderWrongFalsely : Prop := bodyOrderRow.holds Try.pinned (OpenSpec.ofChange bodyOrderWrong)

/-- 'kinespherelaw25.BodyMore': WHATEVER THE INPUT: true; the input reads as it did. -/
def bodyMoreSpec : ChangeSpec := { name := "bodyMore", fn := fun _ => fun
  | [d1, d2, d3, d4] => { results := [.lit (.bool true)], args := [d1, d2, d3, d4] }
  | _ => none }
def bodyMoreRow : OpenClaim := { program := "ytklppgkolcpbbaa", sum := "4a128c83d8d0352d5364d06ae5129fc4f425023db43f5cde5a0193b23670e4d4", func := "kinesphere/kinespherelaw25.BodyMore", spec := "bodyMore", inPlace := ["internal/bytealg.IndexByteString"], unfollowed := true, recurses := true, apart := false }
def BodyMoreSaid : Prop := bodyMoreRow.holds Try.pinned (OpenSpec.ofChange bodyMoreSpec)

/-- ITS FALSE NEIGHBOUR: 'it returns false'. Refute it at one input. -/
def bodyMoreWrong : ChangeSpec := { name := "bodyMore", fn := fun _ => fun
  | [d1, d2, d3, d4] => { results := [.lit (.bool false)], args := [d1, d2, d3, d4] }
  | _ => none }
def BodyMoreWrongFalsely : Prop := bodyMoreRow.holds Try.pinned (OpenSpec.ofChange bodyMoreWrong)

/-- 'kinespherelaw25.BodyPartial': WHATEVER THE INPUT: true; the input reads as it did. -/
def bodyPartialSpec : ChangeSpec := { name := "bodyPartial", fn := fun _ => fun
  | [d1, d2, d3] => { results := [.lit (.bool true)], args := [d1, d2, d3] }
  | _ => none }
def bodyPartialRow : OpenClaim := { program := "ytklppgkolcpbbaa", sum := "4a128c83d8d0352d5364d06ae5129fc4f425023db43f5cde5a0193b23670e4d4", func := "kinesphere/kinespherelaw25.BodyPartial", spec := "bodyPartial", inPlace := ["internal/bytealg.IndexByteString"], unfollowed := true, recurses := true, apart := false }
def BodyPartialSaid : Prop := bodyPartialRow.holds Try.pinned (OpenSpec.ofChange bodyPartialSpec)

/-- ITS FALSE NEIGHBOUR: 'it returns false'. Refute it at one input. -/
def bodyPartialWrong : ChangeSpec := { name := "bodyPartial", fn := fun _ => fun
  | [d1, d2, d3] => { results := [.lit (.bool false)], args := [d1, d2, d3] }
  | _ => none }
def BodyPartialWrongFalsely : Prop := bodyPartialRow.holds Try.pinned (OpenSpec.ofChange bodyPartialWrong)

/- THE SECOND FORM. 'bulk': how many values and letters a reading holds, each counted each time it is reached (what is shared counts as often as it is met; a slice's spare places count too). A statement '..UptoSaid' is the law's where the arguments, and the package variables that the reading takes, are together of bulk at most 1048576: NARROWER than '..Said'. Prove '..Said' where nothing that the law and all that it calls make is longer than what came in: it says more and counts as full. Else prove '..UptoSaid'. A law counts once. -/
mutual
def uptoBulk {H : Type} : DataW H → Nat
  | .lit (.string bytes) => bytes.length + 1
  | .lit _ => 1
  | .nil => 1
  | .ptr d => uptoBulk d + 1
  | .slice elems spare => uptoBulkAll elems + uptoBulkAll spare + 1
  | .agg parts => uptoBulkAll parts + 1
  | .iface _ d => uptoBulk d + 1
  | .map entries => uptoBulkEntries entries + 1
  | .held _ => 1
def uptoBulkAll {H : Type} : List (DataW H) → Nat
  | [] => 0
  | d :: r => uptoBulk d + uptoBulkAll r
def uptoBulkEntries {H : Type} : List (Lit × DataW H) → Nat
  | [] => 0
  | x :: r => uptoBulkEntry x + uptoBulkEntries r
def uptoBulkEntry {H : Type} : Lit × DataW H → Nat
  | (.string bytes, d) => bytes.length + uptoBulk d + 1
  | (_, d) => uptoBulk d + 1
 end
def uptoSmall : (H : Type) → List (DataW H) → Bool := fun _ ds => decide (uptoBulkAll ds ≤ 1048576)
def OpenSpec.upto (s : _root_.Go.ChangeSpec) : _root_.Go.OpenSpec := { _root_.Go.OpenSpec.ofChange s with cond := some uptoSmall }

/-- 'kinespherelaw25.BodySpec', WHERE WHAT IT READS IS OF BULK AT MOST 1048576: true; the input reads as it did. -/
def bodySpecUptoRow : OpenClaim := { program := "ytklppgkolcpbbaa", sum := "4a128c83d8d0352d5364d06ae5129fc4f425023db43f5cde5a0193b23670e4d4", func := "kinesphere/kinespherelaw25.BodySpec", spec := "bodySpec", inPlace := ["internal/bytealg.IndexByteString"], unfollowed := true, recurses := true, apart := false, narrowed := true }
def BodySpecUptoSaid : Prop := bodySpecUptoRow.holds Try.pinned (OpenSpec.upto bodySpecSpec)

/-- 'kinespherelaw25.BodyAllSpec', WHERE WHAT IT READS IS OF BULK AT MOST 1048576: true; the input reads as it did. -/
def bodyAllSpecUptoRow : OpenClaim := { program := "ytklppgkolcpbbaa", sum := "4a128c83d8d0352d5364d06ae5129fc4f425023db43f5cde5a0193b23670e4d4", func := "kinesphere/kinespherelaw25.BodyAllSpec", spec := "bodyAllSpec", inPlace := ["internal/bytealg.IndexByteString"], unfollowed := true, recurses := true, apart := false, narrowed := true }
def BodyAllSpecUptoSaid : Prop := bodyAllSpecUptoRow.holds Try.pinned (OpenSpec.upto bodyAllSpecSpec)

/-- 'kinespherelaw25.BodyGreatest', WHERE WHAT IT READS IS OF BULK AT MOST 1048576: true; the input reads as it did. -/
def bodyGreatestUptoRow : OpenClaim := { program := "ytklppgkolcpbbaa", sum := "4a128c83d8d0352d5364d06ae5129fc4f425023db43f5cde5a0193b23670e4d4", func := "kinesphere/kinespherelaw25.BodyGreatest", spec := "bodyGreatest", inPlace := ["internal/bytealg.IndexByteString"], unfollowed := true, recurses := true, apart := false, narrowed := true }
def BodyGreatestUptoSaid : Prop := bodyGreatestUptoRow.holds Try.pinned (OpenSpec.upto bodyGreatestSpec)

/-- 'kinespherelaw25.BodyOrder', WHERE WHAT IT READS IS OF BULK AT MOST 1048576: true; the input reads as it did. -/
def bodyOrderUptoRow : OpenClaim := { program := "ytklppgkolcpbbaa", sum := "4a128c83d8d0352d5364d06ae5129fc4f425023db43f5cde5a0193b23670e4d4", func := "kinesphere/kinespherelaw25.BodyOrder", spec := "bodyOrder", inPlace := ["internal/bytealg.IndexByteString"], unfollowed := true, recurses := true, apart := false, narrowed := true }
def BodyOrderUptoSaid : Prop := bodyOrderUptoRow.holds Try.pinned (OpenSpec.upto bodyOrderSpec)

/-- 'kinespherelaw25.BodyMore', WHERE WHAT IT READS IS OF BULK AT MOST 1048576: true; the input reads as it did. -/
def bodyMoreUptoRow : OpenClaim := { program := "ytklppgkolcpbbaa", sum := "4a128c83d8d0352d5364d06ae5129fc4f425023db43f5cde5a0193b23670e4d4", func := "kinesphere/kinespherelaw25.BodyMore", spec := "bodyMore", inPlace := ["internal/bytealg.IndexByteString"], unfollowed := true, recurses := true, apart := false, narrowed := true }
def BodyMoreUptoSaid : Prop := bodyMoreUptoRow.holds Try.pinned (OpenSpec.upto bodyMoreSpec)

/-- 'kinespherelaw25.BodyPartial', WHERE WHAT IT READS IS OF BULK AT MOST 1048576: true; the input reads as it did. -/
def bodyPartialUptoRow : OpenClaim := { program := "ytklppgkolcpbbaa", sum := "4a128c83d8d0352d5364d06ae5129fc4f425023db43f5cde5a0193b23670e4d4", func := "kinesphere/kinespherelaw25.BodyPartial", spec := "bodyPartial", inPlace := ["internal/bytealg.IndexByteString"], unfollowed := true, recurses := true, apart := false, narrowed := true }
def BodyPartialUptoSaid : Prop := bodyPartialUptoRow.holds Try.pinned (OpenSpec.upto bodyPartialSpec)

end Rows
end Go.Proofs.Ytklppgkolcpbbaa
