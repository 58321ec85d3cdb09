/-
  DERIVED. GIVEN WITH THE SEED: THE CARDS: each row of YtbbofkpolcjmgaaDoorRows.lean that lists a variable, with what it lists TIED to the program's text (the seventh form; the later family's looks); each row that meets fmt, with fmt's text TOLD by the authors' own Lean function (tested against real Go, not proved from fmt's source: count such statements apart). THE CARD IS WHAT COUNTS. Prove the row's statement (the work); the ties are given (YtbbofkpolcjmgaaDoorTie.lean); close each card by the builder's one call (the guide's Derived/Test/ToyasCard.lean, 'card_holds'). Laid BY PROGRAM, IN A SANDBOX (cutbox-door.mjs). By AI agents, Wed Nov 11 2026. No macro, syntax, notation, axiom, sorry.
-/
import Derived.Test.YtbbofkpolcjmgaaDoorRows
import GoSem.ClaimSeven
namespace Go.Proofs.YtbbofkpolcjmgaaDoor
namespace Rows

/-- THE TIED CARD OF 'kinespherelaw11.SignSpec'. -/
def signSpecCard : Claim7 := { stood := { row := signSpecRow, standIns := [], harness := (true, "6d179b596eba8ceb76626de96847ed48fee7106413bcbf3fd943586f39bf2e6f"), looks := true }, kinds := [], alts := [], laidByText := true, laidKinds := [.data, .data], laidTests := true, laidLooks := .later }
def SignSpecCardSaid : Prop := Claim7.holds Tryd.pinned (.plain (OpenSpec.ofChange signSpecSpec)) signSpecCard

/-- THE TIED CARD OF 'kinespherelaw11.SignRight'. -/
def signRightCard : Claim7 := { stood := { row := signRightRow, standIns := [], harness := (true, "6d179b596eba8ceb76626de96847ed48fee7106413bcbf3fd943586f39bf2e6f"), looks := true }, kinds := [], alts := [], laidByText := true, laidKinds := [.data, .data], laidTests := true, laidLooks := .later }
def SignRightCardSaid : Prop := Claim7.holds Tryd.pinned (.plain (OpenSpec.ofChange signRightSpec)) signRightCard

/-- THE TIED CARD OF 'kinespherelaw11.SignMeans'. -/
def signMeansCard : Claim7 := { stood := { row := signMeansRow, standIns := [], harness := (true, "6d179b596eba8ceb76626de96847ed48fee7106413bcbf3fd943586f39bf2e6f"), looks := true }, kinds := [], alts := [], laidByText := true, laidKinds := [.data, .data], laidTests := true, laidLooks := .later }
def SignMeansCardSaid : Prop := Claim7.holds Tryd.pinned (.plain (OpenSpec.ofChange signMeansSpec)) signMeansCard

/-- THE TIED CARD OF 'kinespherelaw11.SignTwice'. -/
def signTwiceCard : Claim7 := { stood := { row := signTwiceRow, standIns := [], harness := (true, "6d179b596eba8ceb76626de96847ed48fee7106413bcbf3fd943586f39bf2e6f"), looks := true }, kinds := [], alts := [], laidByText := true, laidKinds := [.data, .data], laidTests := true, laidLooks := .later }
def SignTwiceCardSaid : Prop := Claim7.holds Tryd.pinned (.plain (OpenSpec.ofChange signTwiceSpec)) signTwiceCard

/-- THE SECOND FORM's CARD OF 'kinespherelaw11.SignSpec'. -/
def signSpecUptoCard : Claim7 := { stood := { row := signSpecUptoRow, standIns := [], harness := (true, "6d179b596eba8ceb76626de96847ed48fee7106413bcbf3fd943586f39bf2e6f"), looks := true }, kinds := [], alts := [], laidByText := true, laidKinds := [.data, .data], laidTests := true, laidLooks := .later }
def SignSpecUptoCardSaid : Prop := Claim7.holds Tryd.pinned (.plain (OpenSpec.upto signSpecSpec)) signSpecUptoCard

/-- THE SECOND FORM's CARD OF 'kinespherelaw11.SignRight'. -/
def signRightUptoCard : Claim7 := { stood := { row := signRightUptoRow, standIns := [], harness := (true, "6d179b596eba8ceb76626de96847ed48fee7106413bcbf3fd943586f39bf2e6f"), looks := true }, kinds := [], alts := [], laidByText := true, laidKinds := [.data, .data], laidTests := true, laidLooks := .later }
def SignRightUptoCardSaid : Prop := Claim7.holds Tryd.pinned (.plain (OpenSpec.upto signRightSpec)) signRightUptoCard

/-- THE SECOND FORM's CARD OF 'kinespherelaw11.SignMeans'. -/
def signMeansUptoCard : Claim7 := { stood := { row := signMeansUptoRow, standIns := [], harness := (true, "6d179b596eba8ceb76626de96847ed48fee7106413bcbf3fd943586f39bf2e6f"), looks := true }, kinds := [], alts := [], laidByText := true, laidKinds := [.data, .data], laidTests := true, laidLooks := .later }
def SignMeansUptoCardSaid : Prop := Claim7.holds Tryd.pinned (.plain (OpenSpec.upto signMeansSpec)) signMeansUptoCard

/-- THE SECOND FORM's CARD OF 'kinespherelaw11.SignTwice'. -/
def signTwiceUptoCard : Claim7 := { stood := { row := signTwiceUptoRow, standIns := [], harness := (true, "6d179b596eba8ceb76626de96847ed48fee7106413bcbf3fd943586f39bf2e6f"), looks := true }, kinds := [], alts := [], laidByText := true, laidKinds := [.data, .data], laidTests := true, laidLooks := .later }
def SignTwiceUptoCardSaid : Prop := Claim7.holds Tryd.pinned (.plain (OpenSpec.upto signTwiceSpec)) signTwiceUptoCard
end Rows
end Go.Proofs.YtbbofkpolcjmgaaDoor
