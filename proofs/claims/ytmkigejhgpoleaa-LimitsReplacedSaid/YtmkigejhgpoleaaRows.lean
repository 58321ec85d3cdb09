/-
  No cell of these rows narrows 'for every input' (looked for: loops, veiled, ifaces, maps, wideKeys, modest, calm, conditions, laid).
  DERIVED. THE GIVEN ROWS OF THIS SEAT. 7 by the template 'for every input the law returns true; each argument reads behind the call as it read before'; 0 by the template 'total and deterministic' (their statements: YtmkigejhgpoleaaTotals.lean).
  GIVEN WITH THE SEED: the statements are not yours to turn. If you find one false, say at which input.
  Laid BY PROGRAM, IN A SANDBOX (cutbox-rows.mjs): the forced cells as the released guide's own fill.sh prints them over the translation 5877fe9f0ab7ba4b… (all of the seat's roots in one cut). By AI agents, Wed Nov 11 2026. No macro, syntax, notation, axiom, sorry.
-/
import Derived.Test.YtmkigejhgpoleaaChecked
import GoSem.Claim
import GoSem.ClaimJoined
import GoSem.ClaimMapViews
import Derived.JoinedTies
import Derived.KernelRfl
namespace Go.Proofs.Ytmkigejhgpoleaa
/- THE CELL 'sum', in the pinned program and in every row, IS THE sha256 OF THE DUMP (.gsa) THAT YtmkigejhgpoleaaProg.lean LOADS. Nothing in Lean hashes anything: it is a label: what it is worth is what the hold of that sum in a sandbox is worth. -/
noncomputable def Try.pinned : Pinned := { name := "ytmkigejhgpoleaa", sum := "5877fe9f0ab7ba4b8ee6d981db196fcf5e7a3139ae54bc75e408818da2e5d01b", checked := Try.checked }
namespace Rows
def none {H : Type} : Left H := { results := [], args := [] }

/-- 'kinespherelaw34.LimitsSpec': WHATEVER THE INPUT: true; the input reads as it did. -/
def limitsSpecSpec : ChangeSpec := { name := "limitsSpec", fn := fun _ => fun
  | [d1, d2] => { results := [.lit (.bool true)], args := [d1, d2] }
  | _ => none }
def limitsSpecRow : OpenClaim := { program := "ytmkigejhgpoleaa", sum := "5877fe9f0ab7ba4b8ee6d981db196fcf5e7a3139ae54bc75e408818da2e5d01b", func := "kinesphere/kinespherelaw34.LimitsSpec", spec := "limitsSpec", inPlace := ["slices.overlaps[kinesphere/api.Limit]", "internal/bytealg.IndexByteString"], unfollowed := true, recurses := true, apart := false }
def LimitsSpecSaid : Prop := limitsSpecRow.holds Try.pinned (OpenSpec.ofChange limitsSpecSpec)

/-- ITS FALSE NEIGHBOUR: 'it returns false'. Refute it at one input. -/
def limitsSpecWrong : ChangeSpec := { name := "limitsSpec", fn := fun _ => fun
  | [d1, d2] => { results := [.lit (.bool false)], args := [d1, d2] }
  | _ => none }
def LimitsSpecWrongFalsely : Prop := limitsSpecRow.holds Try.pinned (OpenSpec.ofChange limitsSpecWrong)

/-- 'kinespherelaw34.LimitsStandingSpec': WHATEVER THE INPUT: true; the input reads as it did. -/
def limitsStandingSpecSpec : ChangeSpec := { name := "limitsStandingSpec", fn := fun _ => fun
  | [d1, d2, d3, d4, d5] => { results := [.lit (.bool true)], args := [d1, d2, d3, d4, d5] }
  | _ => none }
def limitsStandingSpecRow : OpenClaim := { program := "ytmkigejhgpoleaa", sum := "5877fe9f0ab7ba4b8ee6d981db196fcf5e7a3139ae54bc75e408818da2e5d01b", func := "kinesphere/kinespherelaw34.LimitsStandingSpec", spec := "limitsStandingSpec", inPlace := ["slices.overlaps[kinesphere/api.Limit]", "internal/bytealg.IndexByteString"], unfollowed := true, recurses := true, apart := false }
def LimitsStandingSpecSaid : Prop := limitsStandingSpecRow.holds Try.pinned (OpenSpec.ofChange limitsStandingSpecSpec)

/-- ITS FALSE NEIGHBOUR: 'it returns false'. Refute it at one input. -/
def limitsStandingSpecWrong : ChangeSpec := { name := "limitsStandingSpec", fn := fun _ => fun
  | [d1, d2, d3, d4, d5] => { results := [.lit (.bool false)], args := [d1, d2, d3, d4, d5] }
  | _ => none }
def LimitsStandingSpecWrongFalsely : Prop := limitsStandingSpecRow.holds Try.pinned (OpenSpec.ofChange limitsStandingSpecWrong)

/-- 'kinespherelaw34.LimitsKnown': WHATEVER THE INPUT: true; the input reads as it did. -/
def limitsKnownSpec : ChangeSpec := { name := "limitsKnown", fn := fun _ => fun
  | [d1, d2, d3, d4] => { results := [.lit (.bool true)], args := [d1, d2, d3, d4] }
  | _ => none }
def limitsKnownRow : OpenClaim := { program := "ytmkigejhgpoleaa", sum := "5877fe9f0ab7ba4b8ee6d981db196fcf5e7a3139ae54bc75e408818da2e5d01b", func := "kinesphere/kinespherelaw34.LimitsKnown", spec := "limitsKnown", inPlace := ["slices.overlaps[kinesphere/api.Limit]", "internal/bytealg.IndexByteString"], unfollowed := true, recurses := true, apart := false }
def LimitsKnownSaid : Prop := limitsKnownRow.holds Try.pinned (OpenSpec.ofChange limitsKnownSpec)

/-- ITS FALSE NEIGHBOUR: 'it returns false'. Refute it at one input. -/
def limitsKnownWrong : ChangeSpec := { name := "limitsKnown", fn := fun _ => fun
  | [d1, d2, d3, d4] => { results := [.lit (.bool false)], args := [d1, d2, d3, d4] }
  | _ => none }
def LimitsKnownWrongFalsely : Prop := limitsKnownRow.holds Try.pinned (OpenSpec.ofChange limitsKnownWrong)

/-- 'kinespherelaw34.LimitsReplaced': WHATEVER THE INPUT: true; the input reads as it did. -/
def limitsReplacedSpec : ChangeSpec := { name := "limitsReplaced", fn := fun _ => fun
  | [d1, d2, d3, d4, d5] => { results := [.lit (.bool true)], args := [d1, d2, d3, d4, d5] }
  | _ => none }
def limitsReplacedRow : OpenClaim := { program := "ytmkigejhgpoleaa", sum := "5877fe9f0ab7ba4b8ee6d981db196fcf5e7a3139ae54bc75e408818da2e5d01b", func := "kinesphere/kinespherelaw34.LimitsReplaced", spec := "limitsReplaced", inPlace := ["slices.overlaps[kinesphere/api.Limit]", "internal/bytealg.IndexByteString"], unfollowed := true, recurses := true, apart := false }
def LimitsReplacedSaid : Prop := limitsReplacedRow.holds Try.pinned (OpenSpec.ofChange limitsReplacedSpec)

/-- ITS FALSE NEIGHBOUR: 'it returns false'. Refute it at one input. -/
def limitsReplacedWrong : ChangeSpec := { name := "limitsReplaced", fn := fun _ => fun
  | [d1, d2, d3, d4, d5] => { results := [.lit (.bool false)], args := [d1, d2, d3, d4, d5] }
  | _ => none }
def LimitsReplacedWrongFalsely : Prop := limitsReplacedRow.holds Try.pinned (OpenSpec.ofChange limitsReplacedWrong)

/-- 'kinespherelaw34.LimitsAdd': WHATEVER THE INPUT: true; the input reads as it did. -/
def limitsAddSpec : ChangeSpec := { name := "limitsAdd", fn := fun _ => fun
  | [d1, d2, d3] => { results := [.lit (.bool true)], args := [d1, d2, d3] }
  | _ => none }
def limitsAddRow : OpenClaim := { program := "ytmkigejhgpoleaa", sum := "5877fe9f0ab7ba4b8ee6d981db196fcf5e7a3139ae54bc75e408818da2e5d01b", func := "kinesphere/kinespherelaw34.LimitsAdd", spec := "limitsAdd", inPlace := ["slices.overlaps[kinesphere/api.Limit]", "internal/bytealg.IndexByteString"], unfollowed := true, recurses := true, apart := false }
def LimitsAddSaid : Prop := limitsAddRow.holds Try.pinned (OpenSpec.ofChange limitsAddSpec)

/-- ITS FALSE NEIGHBOUR: 'it returns false'. Refute it at one input. -/
def limitsAddWrong : ChangeSpec := { name := "limitsAdd", fn := fun _ => fun
  | [d1, d2, d3] => { results := [.lit (.bool false)], args := [d1, d2, d3] }
  | _ => none }
def LimitsAddWrongFalsely : Prop := limitsAddRow.holds Try.pinned (OpenSpec.ofChange limitsAddWrong)

/-- 'kinespherelaw34.LimitsGreatest': WHATEVER THE INPUT: true; the input reads as it did. -/
def limitsGreatestSpec : ChangeSpec := { name := "limitsGreatest", fn := fun _ => fun
  | [d1, d2, d3, d4, d5, d6] => { results := [.lit (.bool true)], args := [d1, d2, d3, d4, d5, d6] }
  | _ => none }
def limitsGreatestRow : OpenClaim := { program := "ytmkigejhgpoleaa", sum := "5877fe9f0ab7ba4b8ee6d981db196fcf5e7a3139ae54bc75e408818da2e5d01b", func := "kinesphere/kinespherelaw34.LimitsGreatest", spec := "limitsGreatest", inPlace := ["slices.overlaps[kinesphere/api.Limit]", "internal/bytealg.IndexByteString"], unfollowed := true, recurses := true, apart := false }
def LimitsGreatestSaid : Prop := limitsGreatestRow.holds Try.pinned (OpenSpec.ofChange limitsGreatestSpec)

/-- ITS FALSE NEIGHBOUR: 'it returns false'. Refute it at one input. -/
def limitsGreatestWrong : ChangeSpec := { name := "limitsGreatest", fn := fun _ => fun
  | [d1, d2, d3, d4, d5, d6] => { results := [.lit (.bool false)], args := [d1, d2, d3, d4, d5, d6] }
  | _ => none }
def LimitsGreatestWrongFalsely : Prop := limitsGreatestRow.holds Try.pinned (OpenSpec.ofChange limitsGreatestWrong)

/-- 'kinespherelaw34.LimitsFurther': WHATEVER THE INPUT: true; the input reads as it did. -/
def limitsFurtherSpec : ChangeSpec := { name := "limitsFurther", fn := fun _ => fun
  | [d1, d2, d3, d4, d5, d6] => { results := [.lit (.bool true)], args := [d1, d2, d3, d4, d5, d6] }
  | _ => none }
def limitsFurtherRow : OpenClaim := { program := "ytmkigejhgpoleaa", sum := "5877fe9f0ab7ba4b8ee6d981db196fcf5e7a3139ae54bc75e408818da2e5d01b", func := "kinesphere/kinespherelaw34.LimitsFurther", spec := "limitsFurther", inPlace := ["slices.overlaps[kinesphere/api.Limit]", "internal/bytealg.IndexByteString"], unfollowed := true, recurses := true, apart := false }
def LimitsFurtherSaid : Prop := limitsFurtherRow.holds Try.pinned (OpenSpec.ofChange limitsFurtherSpec)

/-- ITS FALSE NEIGHBOUR: 'it returns false'. Refute it at one input. -/
def limitsFurtherWrong : ChangeSpec := { name := "limitsFurther", fn := fun _ => fun
  | [d1, d2, d3, d4, d5, d6] => { results := [.lit (.bool false)], args := [d1, d2, d3, d4, d5, d6] }
  | _ => none }
def LimitsFurtherWrongFalsely : Prop := limitsFurtherRow.holds Try.pinned (OpenSpec.ofChange limitsFurtherWrong)

/- THE SECOND FORM. 'bulk': how many values and letters a reading holds, each counted each time it is reached (what is shared counts as often as it is met; a slice's spare places count too). A statement '..UptoSaid' is the law's where the arguments, and the package variables that the reading takes, are together of bulk at most 1048576: NARROWER than '..Said'. Prove '..Said' where nothing that the law and all that it calls make is longer than what came in: it says more and counts as full. Else prove '..UptoSaid'. A law counts once. -/
mutual
def uptoBulk {H : Type} : DataW H → Nat
  | .lit (.string bytes) => bytes.length + 1
  | .lit _ => 1
  | .nil => 1
  | .ptr d => uptoBulk d + 1
  | .slice elems spare => uptoBulkAll elems + uptoBulkAll spare + 1
  | .agg parts => uptoBulkAll parts + 1
  | .iface _ d => uptoBulk d + 1
  | .map entries => uptoBulkEntries entries + 1
  | .held _ => 1
def uptoBulkAll {H : Type} : List (DataW H) → Nat
  | [] => 0
  | d :: r => uptoBulk d + uptoBulkAll r
def uptoBulkEntries {H : Type} : List (Lit × DataW H) → Nat
  | [] => 0
  | x :: r => uptoBulkEntry x + uptoBulkEntries r
def uptoBulkEntry {H : Type} : Lit × DataW H → Nat
  | (.string bytes, d) => bytes.length + uptoBulk d + 1
  | (_, d) => uptoBulk d + 1
 end
def uptoSmall : (H : Type) → List (DataW H) → Bool := fun _ ds => decide (uptoBulkAll ds ≤ 1048576)
def OpenSpec.upto (s : _root_.Go.ChangeSpec) : _root_.Go.OpenSpec := { _root_.Go.OpenSpec.ofChange s with cond := some uptoSmall }

/-- 'kinespherelaw34.LimitsSpec', WHERE WHAT IT READS IS OF BULK AT MOST 1048576: true; the input reads as it did. -/
def limitsSpecUptoRow : OpenClaim := { program := "ytmkigejhgpoleaa", sum := "5877fe9f0ab7ba4b8ee6d981db196fcf5e7a3139ae54bc75e408818da2e5d01b", func := "kinesphere/kinespherelaw34.LimitsSpec", spec := "limitsSpec", inPlace := ["slices.overlaps[kinesphere/api.Limit]", "internal/bytealg.IndexByteString"], unfollowed := true, recurses := true, apart := false, narrowed := true }
def LimitsSpecUptoSaid : Prop := limitsSpecUptoRow.holds Try.pinned (OpenSpec.upto limitsSpecSpec)

/-- 'kinespherelaw34.LimitsStandingSpec', WHERE WHAT IT READS IS OF BULK AT MOST 1048576: true; the input reads as it did. -/
def limitsStandingSpecUptoRow : OpenClaim := { program := "ytmkigejhgpoleaa", sum := "5877fe9f0ab7ba4b8ee6d981db196fcf5e7a3139ae54bc75e408818da2e5d01b", func := "kinesphere/kinespherelaw34.LimitsStandingSpec", spec := "limitsStandingSpec", inPlace := ["slices.overlaps[kinesphere/api.Limit]", "internal/bytealg.IndexByteString"], unfollowed := true, recurses := true, apart := false, narrowed := true }
def LimitsStandingSpecUptoSaid : Prop := limitsStandingSpecUptoRow.holds Try.pinned (OpenSpec.upto limitsStandingSpecSpec)

/-- 'kinespherelaw34.LimitsKnown', WHERE WHAT IT READS IS OF BULK AT MOST 1048576: true; the input reads as it did. -/
def limitsKnownUptoRow : OpenClaim := { program := "ytmkigejhgpoleaa", sum := "5877fe9f0ab7ba4b8ee6d981db196fcf5e7a3139ae54bc75e408818da2e5d01b", func := "kinesphere/kinespherelaw34.LimitsKnown", spec := "limitsKnown", inPlace := ["slices.overlaps[kinesphere/api.Limit]", "internal/bytealg.IndexByteString"], unfollowed := true, recurses := true, apart := false, narrowed := true }
def LimitsKnownUptoSaid : Prop := limitsKnownUptoRow.holds Try.pinned (OpenSpec.upto limitsKnownSpec)

/-- 'kinespherelaw34.LimitsReplaced', WHERE WHAT IT READS IS OF BULK AT MOST 1048576: true; the input reads as it did. -/
def limitsReplacedUptoRow : OpenClaim := { program := "ytmkigejhgpoleaa", sum := "5877fe9f0ab7ba4b8ee6d981db196fcf5e7a3139ae54bc75e408818da2e5d01b", func := "kinesphere/kinespherelaw34.LimitsReplaced", spec := "limitsReplaced", inPlace := ["slices.overlaps[kinesphere/api.Limit]", "internal/bytealg.IndexByteString"], unfollowed := true, recurses := true, apart := false, narrowed := true }
def LimitsReplacedUptoSaid : Prop := limitsReplacedUptoRow.holds Try.pinned (OpenSpec.upto limitsReplacedSpec)

/-- 'kinespherelaw34.LimitsAdd', WHERE WHAT IT READS IS OF BULK AT MOST 1048576: true; the input reads as it did. -/
def limitsAddUptoRow : OpenClaim := { program := "ytmkigejhgpoleaa", sum := "5877fe9f0ab7ba4b8ee6d981db196fcf5e7a3139ae54bc75e408818da2e5d01b", func := "kinesphere/kinespherelaw34.LimitsAdd", spec := "limitsAdd", inPlace := ["slices.overlaps[kinesphere/api.Limit]", "internal/bytealg.IndexByteString"], unfollowed := true, recurses := true, apart := false, narrowed := true }
def LimitsAddUptoSaid : Prop := limitsAddUptoRow.holds Try.pinned (OpenSpec.upto limitsAddSpec)

/-- 'kinespherelaw34.LimitsGreatest', WHERE WHAT IT READS IS OF BULK AT MOST 1048576: true; the input reads as it did. -/
def limitsGreatestUptoRow : OpenClaim := { program := "ytmkigejhgpoleaa", sum := "5877fe9f0ab7ba4b8ee6d981db196fcf5e7a3139ae54bc75e408818da2e5d01b", func := "kinesphere/kinespherelaw34.LimitsGreatest", spec := "limitsGreatest", inPlace := ["slices.overlaps[kinesphere/api.Limit]", "internal/bytealg.IndexByteString"], unfollowed := true, recurses := true, apart := false, narrowed := true }
def LimitsGreatestUptoSaid : Prop := limitsGreatestUptoRow.holds Try.pinned (OpenSpec.upto limitsGreatestSpec)

/-- 'kinespherelaw34.LimitsFurther', WHERE WHAT IT READS IS OF BULK AT MOST 1048576: true; the input reads as it did. -/
def limitsFurtherUptoRow : OpenClaim := { program := "ytmkigejhgpoleaa", sum := "5877fe9f0ab7ba4b8ee6d981db196fcf5e7a3139ae54bc75e408818da2e5d01b", func := "kinesphere/kinespherelaw34.LimitsFurther", spec := "limitsFurther", inPlace := ["slices.overlaps[kinesphere/api.Limit]", "internal/bytealg.IndexByteString"], unfollowed := true, recurses := true, apart := false, narrowed := true }
def LimitsFurtherUptoSaid : Prop := limitsFurtherUptoRow.holds Try.pinned (OpenSpec.upto limitsFurtherSpec)

end Rows
end Go.Proofs.Ytmkigejhgpoleaa
