/-
  DERIVED. GIVEN WITH THE SEED: THE CARDS: each row of YtidekfgkpindbaaDoorRows.lean that lists a variable, with what it lists TIED to the program's text (the seventh form; the later family's looks); each row that meets fmt, with fmt's text TOLD by the authors' own Lean function (tested against real Go, not proved from fmt's source: count such statements apart). THE CARD IS WHAT COUNTS. Prove the row's statement (the work); the ties are given (YtidekfgkpindbaaDoorTie.lean); close each card by the builder's one call (the guide's Derived/Test/ToyasCard.lean, 'card_holds'). Laid BY PROGRAM, IN A SANDBOX (cutbox-door.mjs). By AI agents, Wed Nov 11 2026. No macro, syntax, notation, axiom, sorry.
-/
import Derived.Test.YtidekfgkpindbaaDoorRows
import GoSem.ClaimSeven
namespace Go.Proofs.YtidekfgkpindbaaDoor
namespace Rows

/-- THE TIED CARD OF 'kinespherelaw35.SealsForm'. -/
def sealsFormCard : Claim7 := { stood := { row := sealsFormRow, standIns := [], harness := (true, "c3f68e746a21fc0c643233f347154198f1062233e2636b019b709adf3bb31bd2"), looks := true }, kinds := [], alts := [], laidByText := true, laidKinds := [.data, .data], laidTests := true, laidLooks := .later }
def SealsFormCardSaid : Prop := Claim7.holds Tryd.pinned (.plain (OpenSpec.ofChange sealsFormSpec)) sealsFormCard

/-- THE TIED CARD OF 'kinespherelaw35.SealsForce'. -/
def sealsForceCard : Claim7 := { stood := { row := sealsForceRow, standIns := [], harness := (true, "c3f68e746a21fc0c643233f347154198f1062233e2636b019b709adf3bb31bd2"), looks := true }, kinds := [], alts := [], laidByText := true, laidKinds := [.data, .data], laidTests := true, laidLooks := .later }
def SealsForceCardSaid : Prop := Claim7.holds Tryd.pinned (.plain (OpenSpec.ofChange sealsForceSpec)) sealsForceCard

/-- THE SECOND FORM's CARD OF 'kinespherelaw35.SealsForm'. -/
def sealsFormUptoCard : Claim7 := { stood := { row := sealsFormUptoRow, standIns := [], harness := (true, "c3f68e746a21fc0c643233f347154198f1062233e2636b019b709adf3bb31bd2"), looks := true }, kinds := [], alts := [], laidByText := true, laidKinds := [.data, .data], laidTests := true, laidLooks := .later }
def SealsFormUptoCardSaid : Prop := Claim7.holds Tryd.pinned (.plain (OpenSpec.upto sealsFormSpec)) sealsFormUptoCard

/-- THE SECOND FORM's CARD OF 'kinespherelaw35.SealsForce'. -/
def sealsForceUptoCard : Claim7 := { stood := { row := sealsForceUptoRow, standIns := [], harness := (true, "c3f68e746a21fc0c643233f347154198f1062233e2636b019b709adf3bb31bd2"), looks := true }, kinds := [], alts := [], laidByText := true, laidKinds := [.data, .data], laidTests := true, laidLooks := .later }
def SealsForceUptoCardSaid : Prop := Claim7.holds Tryd.pinned (.plain (OpenSpec.upto sealsForceSpec)) sealsForceUptoCard
end Rows
end Go.Proofs.YtidekfgkpindbaaDoor
