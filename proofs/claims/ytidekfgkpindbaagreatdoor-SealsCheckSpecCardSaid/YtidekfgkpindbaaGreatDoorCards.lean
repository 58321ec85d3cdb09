/-
  DERIVED. GIVEN WITH THE SEED: THE CARDS: each row of YtidekfgkpindbaaGreatDoorRows.lean that lists a variable, with what it lists TIED to the program's text (the seventh form; the later family's looks); each row that meets fmt, with fmt's text TOLD by the authors' own Lean function (tested against real Go, not proved from fmt's source: count such statements apart). THE CARD IS WHAT COUNTS. Prove the row's statement (the work); the ties are given (YtidekfgkpindbaaGreatDoorTie.lean); close each card by the builder's one call (the guide's Derived/Test/ToyasCard.lean, 'card_holds'). Laid BY PROGRAM, IN A SANDBOX (cutbox-door.mjs). By AI agents, Wed Nov 11 2026. No macro, syntax, notation, axiom, sorry.
-/
import Derived.Test.YtidekfgkpindbaaGreatDoorRows
import GoSem.ClaimSeven
namespace Go.Proofs.YtidekfgkpindbaaGreatDoor
namespace Rows

/-- THE TIED CARD OF 'kinespherelaw35.SealsSpec'. -/
def sealsSpecCard : Claim7 := { stood := { row := sealsSpecRow, standIns := [], harness := (true, "b17c97499ac8d2360530066be6e8599482f8b417d971fa16015675d4a7c9a428"), looks := true }, kinds := [], alts := [], laidByText := true, laidKinds := [.data, .data], laidTests := true, laidLooks := .later }
def SealsSpecCardSaid : Prop := Claim7.holds Tryz.pinned (.plain (OpenSpec.ofChange sealsSpecSpec)) sealsSpecCard

/-- THE TIED CARD OF 'kinespherelaw35.SealsCheckSpec'. -/
def sealsCheckSpecCard : Claim7 := { stood := { row := sealsCheckSpecRow, standIns := [], harness := (true, "b17c97499ac8d2360530066be6e8599482f8b417d971fa16015675d4a7c9a428"), looks := true }, kinds := [], alts := [], laidByText := true, laidKinds := [.data, .data], laidTests := true, laidLooks := .later }
def SealsCheckSpecCardSaid : Prop := Claim7.holds Tryz.pinned (.plain (OpenSpec.ofChange sealsCheckSpecSpec)) sealsCheckSpecCard

/-- THE SECOND FORM's CARD OF 'kinespherelaw35.SealsSpec'. -/
def sealsSpecUptoCard : Claim7 := { stood := { row := sealsSpecUptoRow, standIns := [], harness := (true, "b17c97499ac8d2360530066be6e8599482f8b417d971fa16015675d4a7c9a428"), looks := true }, kinds := [], alts := [], laidByText := true, laidKinds := [.data, .data], laidTests := true, laidLooks := .later }
def SealsSpecUptoCardSaid : Prop := Claim7.holds Tryz.pinned (.plain (OpenSpec.upto sealsSpecSpec)) sealsSpecUptoCard

/-- THE SECOND FORM's CARD OF 'kinespherelaw35.SealsCheckSpec'. -/
def sealsCheckSpecUptoCard : Claim7 := { stood := { row := sealsCheckSpecUptoRow, standIns := [], harness := (true, "b17c97499ac8d2360530066be6e8599482f8b417d971fa16015675d4a7c9a428"), looks := true }, kinds := [], alts := [], laidByText := true, laidKinds := [.data, .data], laidTests := true, laidLooks := .later }
def SealsCheckSpecUptoCardSaid : Prop := Claim7.holds Tryz.pinned (.plain (OpenSpec.upto sealsCheckSpecSpec)) sealsCheckSpecUptoCard
end Rows
end Go.Proofs.YtidekfgkpindbaaGreatDoor
