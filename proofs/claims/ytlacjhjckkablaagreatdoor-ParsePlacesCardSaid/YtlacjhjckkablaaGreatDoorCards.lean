/-
  DERIVED. GIVEN WITH THE SEED: THE CARDS: each row of YtlacjhjckkablaaGreatDoorRows.lean that lists a variable, with what it lists TIED to the program's text (the seventh form; the later family's looks); each row that meets fmt, with fmt's text TOLD by the authors' own Lean function (tested against real Go, not proved from fmt's source: count such statements apart). THE CARD IS WHAT COUNTS. Prove the row's statement (the work); the ties are given (YtlacjhjckkablaaGreatDoorTie.lean); close each card by the builder's one call (the guide's Derived/Test/ToyasCard.lean, 'card_holds'). Laid BY PROGRAM, IN A SANDBOX (cutbox-door.mjs). By AI agents, Wed Nov 11 2026. No macro, syntax, notation, axiom, sorry.
-/
import Derived.Test.YtlacjhjckkablaaGreatDoorRows
import GoSem.ClaimSeven
namespace Go.Proofs.YtlacjhjckkablaaGreatDoor
namespace Rows

/-- THE TIED CARD OF 'busbarlaw06.ParseFiles'. -/
def parseFilesCard : Claim7 := { stood := { row := parseFilesRow, standIns := [], harness := (true, "2c1a8c0d7efc15d808c6ae329509b54b674b69e62816ff5269328af22fa00b64"), looks := true }, kinds := [], alts := [], laidByText := true, laidKinds := [.data, .data, .data, .data, .handle, .sentinel, .sentinel, .pinned], laidTests := true, laidLooks := .later }
def ParseFilesCardSaid : Prop := Claim7.holds Tryz.pinned (.plain (OpenSpec.ofChange parseFilesSpec)) parseFilesCard

/-- THE TIED CARD OF 'busbarlaw06.ParsePlaces'. -/
def parsePlacesCard : Claim7 := { stood := { row := parsePlacesRow, standIns := [], harness := (true, "2c1a8c0d7efc15d808c6ae329509b54b674b69e62816ff5269328af22fa00b64"), looks := true }, kinds := [], alts := [], laidByText := true, laidKinds := [.data, .data, .data, .data, .handle, .sentinel, .sentinel, .pinned], laidTests := true, laidLooks := .later }
def ParsePlacesCardSaid : Prop := Claim7.holds Tryz.pinned (.plain (OpenSpec.ofChange parsePlacesSpec)) parsePlacesCard

/-- THE SECOND FORM's CARD OF 'busbarlaw06.ParseFiles'. -/
def parseFilesUptoCard : Claim7 := { stood := { row := parseFilesUptoRow, standIns := [], harness := (true, "2c1a8c0d7efc15d808c6ae329509b54b674b69e62816ff5269328af22fa00b64"), looks := true }, kinds := [], alts := [], laidByText := true, laidKinds := [.data, .data, .data, .data, .handle, .sentinel, .sentinel, .pinned], laidTests := true, laidLooks := .later }
def ParseFilesUptoCardSaid : Prop := Claim7.holds Tryz.pinned (.plain (OpenSpec.upto parseFilesSpec)) parseFilesUptoCard

/-- THE SECOND FORM's CARD OF 'busbarlaw06.ParsePlaces'. -/
def parsePlacesUptoCard : Claim7 := { stood := { row := parsePlacesUptoRow, standIns := [], harness := (true, "2c1a8c0d7efc15d808c6ae329509b54b674b69e62816ff5269328af22fa00b64"), looks := true }, kinds := [], alts := [], laidByText := true, laidKinds := [.data, .data, .data, .data, .handle, .sentinel, .sentinel, .pinned], laidTests := true, laidLooks := .later }
def ParsePlacesUptoCardSaid : Prop := Claim7.holds Tryz.pinned (.plain (OpenSpec.upto parsePlacesSpec)) parsePlacesUptoCard
end Rows
end Go.Proofs.YtlacjhjckkablaaGreatDoor
