/-
  DERIVED. GIVEN WITH THE SEED: THE CARDS: each row of YtdamlaegboiokaaDoorRows.lean that lists a variable, with what it lists TIED to the program's text (the seventh form; the later family's looks); each row that meets fmt, with fmt's text TOLD by the authors' own Lean function (tested against real Go, not proved from fmt's source: count such statements apart). THE CARD IS WHAT COUNTS. Prove the row's statement (the work); the ties are given (YtdamlaegboiokaaDoorTie.lean); close each card by the builder's one call (the guide's Derived/Test/ToyasCard.lean, 'card_holds'). Laid BY PROGRAM, IN A SANDBOX (cutbox-door.mjs). By AI agents, Wed Nov 11 2026. No macro, syntax, notation, axiom, sorry.
-/
import Derived.Test.YtdamlaegboiokaaDoorRows
import GoSem.ClaimSeven
namespace Go.Proofs.YtdamlaegboiokaaDoor
namespace Rows

/-- THE TIED CARD OF 'kinespherelaw08.ChainAddSpec'. -/
def chainAddSpecCard : Claim7 := { stood := { row := chainAddSpecRow, standIns := [], harness := (true, "521b2ca88230f32fb39facb778099429df77589fc8ba99baccf153ac95919c22"), looks := false }, kinds := [], alts := [], laidByText := true, laidKinds := [.data, .data], laidTests := true, laidLooks := .later }
def ChainAddSpecCardSaid : Prop := Claim7.holds Tryd.pinned (.plain (OpenSpec.ofChange chainAddSpecSpec)) chainAddSpecCard

/-- THE TIED CARD OF 'kinespherelaw08.ChainBuilt'. -/
def chainBuiltCard : Claim7 := { stood := { row := chainBuiltRow, standIns := [], harness := (true, "521b2ca88230f32fb39facb778099429df77589fc8ba99baccf153ac95919c22"), looks := false }, kinds := [], alts := [], laidByText := true, laidKinds := [.data, .data], laidTests := true, laidLooks := .later }
def ChainBuiltCardSaid : Prop := Claim7.holds Tryd.pinned (.plain (OpenSpec.ofChange chainBuiltSpec)) chainBuiltCard

/-- THE TIED CARD OF 'kinespherelaw08.ChainEqual'. -/
def chainEqualCard : Claim7 := { stood := { row := chainEqualRow, standIns := [], harness := (true, "521b2ca88230f32fb39facb778099429df77589fc8ba99baccf153ac95919c22"), looks := false }, kinds := [], alts := [], laidByText := true, laidKinds := [.data, .data], laidTests := true, laidLooks := .later }
def ChainEqualCardSaid : Prop := Claim7.holds Tryd.pinned (.plain (OpenSpec.ofChange chainEqualSpec)) chainEqualCard

/-- THE TIED CARD OF 'kinespherelaw08.ChainChanged'. -/
def chainChangedCard : Claim7 := { stood := { row := chainChangedRow, standIns := [], harness := (true, "521b2ca88230f32fb39facb778099429df77589fc8ba99baccf153ac95919c22"), looks := false }, kinds := [], alts := [], laidByText := true, laidKinds := [.data, .data], laidTests := true, laidLooks := .later }
def ChainChangedCardSaid : Prop := Claim7.holds Tryd.pinned (.plain (OpenSpec.ofChange chainChangedSpec)) chainChangedCard

/-- THE TIED CARD OF 'kinespherelaw08.ChainParts'. -/
def chainPartsCard : Claim7 := { stood := { row := chainPartsRow, standIns := [], harness := (true, "521b2ca88230f32fb39facb778099429df77589fc8ba99baccf153ac95919c22"), looks := false }, kinds := [], alts := [], laidByText := true, laidKinds := [.data, .data], laidTests := true, laidLooks := .later }
def ChainPartsCardSaid : Prop := Claim7.holds Tryd.pinned (.plain (OpenSpec.ofChange chainPartsSpec)) chainPartsCard

/-- THE SECOND FORM's CARD OF 'kinespherelaw08.ChainAddSpec'. -/
def chainAddSpecUptoCard : Claim7 := { stood := { row := chainAddSpecUptoRow, standIns := [], harness := (true, "521b2ca88230f32fb39facb778099429df77589fc8ba99baccf153ac95919c22"), looks := false }, kinds := [], alts := [], laidByText := true, laidKinds := [.data, .data], laidTests := true, laidLooks := .later }
def ChainAddSpecUptoCardSaid : Prop := Claim7.holds Tryd.pinned (.plain (OpenSpec.upto chainAddSpecSpec)) chainAddSpecUptoCard

/-- THE SECOND FORM's CARD OF 'kinespherelaw08.ChainBuilt'. -/
def chainBuiltUptoCard : Claim7 := { stood := { row := chainBuiltUptoRow, standIns := [], harness := (true, "521b2ca88230f32fb39facb778099429df77589fc8ba99baccf153ac95919c22"), looks := false }, kinds := [], alts := [], laidByText := true, laidKinds := [.data, .data], laidTests := true, laidLooks := .later }
def ChainBuiltUptoCardSaid : Prop := Claim7.holds Tryd.pinned (.plain (OpenSpec.upto chainBuiltSpec)) chainBuiltUptoCard

/-- THE SECOND FORM's CARD OF 'kinespherelaw08.ChainEqual'. -/
def chainEqualUptoCard : Claim7 := { stood := { row := chainEqualUptoRow, standIns := [], harness := (true, "521b2ca88230f32fb39facb778099429df77589fc8ba99baccf153ac95919c22"), looks := false }, kinds := [], alts := [], laidByText := true, laidKinds := [.data, .data], laidTests := true, laidLooks := .later }
def ChainEqualUptoCardSaid : Prop := Claim7.holds Tryd.pinned (.plain (OpenSpec.upto chainEqualSpec)) chainEqualUptoCard

/-- THE SECOND FORM's CARD OF 'kinespherelaw08.ChainChanged'. -/
def chainChangedUptoCard : Claim7 := { stood := { row := chainChangedUptoRow, standIns := [], harness := (true, "521b2ca88230f32fb39facb778099429df77589fc8ba99baccf153ac95919c22"), looks := false }, kinds := [], alts := [], laidByText := true, laidKinds := [.data, .data], laidTests := true, laidLooks := .later }
def ChainChangedUptoCardSaid : Prop := Claim7.holds Tryd.pinned (.plain (OpenSpec.upto chainChangedSpec)) chainChangedUptoCard

/-- THE SECOND FORM's CARD OF 'kinespherelaw08.ChainParts'. -/
def chainPartsUptoCard : Claim7 := { stood := { row := chainPartsUptoRow, standIns := [], harness := (true, "521b2ca88230f32fb39facb778099429df77589fc8ba99baccf153ac95919c22"), looks := false }, kinds := [], alts := [], laidByText := true, laidKinds := [.data, .data], laidTests := true, laidLooks := .later }
def ChainPartsUptoCardSaid : Prop := Claim7.holds Tryd.pinned (.plain (OpenSpec.upto chainPartsSpec)) chainPartsUptoCard
end Rows
end Go.Proofs.YtdamlaegboiokaaDoor
