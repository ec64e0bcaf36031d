/-
  DERIVED. GIVEN WITH THE SEED: THE CARDS: each row of YtajebceanonalaaGreatDoorRows.lean that lists a variable, with what it lists TIED to the program's text (the seventh form; the later family's looks); each row that meets fmt, with fmt's text TOLD by the authors' own Lean function (tested against real Go, not proved from fmt's source: count such statements apart). THE CARD IS WHAT COUNTS. Prove the row's statement (the work); the ties are given (YtajebceanonalaaGreatDoorTie.lean); close each card by the builder's one call (the guide's Derived/Test/ToyasCard.lean, 'card_holds'). Laid BY PROGRAM, IN A SANDBOX (cutbox-door.mjs). By AI agents, Wed Nov 11 2026. No macro, syntax, notation, axiom, sorry.
-/
import Derived.Test.YtajebceanonalaaGreatDoorRows
import GoSem.ClaimSeven
namespace Go.Proofs.YtajebceanonalaaGreatDoor
namespace Rows

/-- THE TIED CARD OF 'busbarlaw02.RatParses'. -/
def ratParsesCard : Claim7 := { stood := { row := ratParsesRow, standIns := [], harness := (true, "9c4e3bcab3aef4dff40e03e57e8857c7c6c18d4e2565b8d397bac2894a630bf4"), looks := true }, kinds := [], alts := [], laidByText := true, laidKinds := [.data, .data, .data, .data, .handle, .sentinel, .sentinel, .pinned], laidTests := true, laidLooks := .later }
def RatParsesCardSaid : Prop := Claim7.holds Tryz.pinned (.plain (OpenSpec.ofChange ratParsesSpec)) ratParsesCard

/-- THE TIED CARD OF 'busbarlaw02.RatThere'. -/
def ratThereCard : Claim7 := { stood := { row := ratThereRow, standIns := [], harness := (true, "9c4e3bcab3aef4dff40e03e57e8857c7c6c18d4e2565b8d397bac2894a630bf4"), looks := true }, kinds := [], alts := [], laidByText := true, laidKinds := [.data, .data, .data, .data, .sentinel, .sentinel, .pinned], laidTests := true, laidLooks := .later }
def RatThereCardSaid : Prop := Claim7.holds Tryz.pinned (.plain (OpenSpec.ofChange ratThereSpec)) ratThereCard

/-- THE TIED CARD OF 'busbarlaw02.RatKnown'. -/
def ratKnownCard : Claim7 := { stood := { row := ratKnownRow, standIns := [], harness := (true, "9c4e3bcab3aef4dff40e03e57e8857c7c6c18d4e2565b8d397bac2894a630bf4"), looks := true }, kinds := [], alts := [], laidByText := true, laidKinds := [.data, .data, .data, .data, .handle, .sentinel, .sentinel, .pinned], laidTests := true, laidLooks := .later }
def RatKnownCardSaid : Prop := Claim7.holds Tryz.pinned (.plain (OpenSpec.ofChange ratKnownSpec)) ratKnownCard

/-- THE SECOND FORM's CARD OF 'busbarlaw02.RatParses'. -/
def ratParsesUptoCard : Claim7 := { stood := { row := ratParsesUptoRow, standIns := [], harness := (true, "9c4e3bcab3aef4dff40e03e57e8857c7c6c18d4e2565b8d397bac2894a630bf4"), looks := true }, kinds := [], alts := [], laidByText := true, laidKinds := [.data, .data, .data, .data, .handle, .sentinel, .sentinel, .pinned], laidTests := true, laidLooks := .later }
def RatParsesUptoCardSaid : Prop := Claim7.holds Tryz.pinned (.plain (OpenSpec.upto ratParsesSpec)) ratParsesUptoCard

/-- THE SECOND FORM's CARD OF 'busbarlaw02.RatThere'. -/
def ratThereUptoCard : Claim7 := { stood := { row := ratThereUptoRow, standIns := [], harness := (true, "9c4e3bcab3aef4dff40e03e57e8857c7c6c18d4e2565b8d397bac2894a630bf4"), looks := true }, kinds := [], alts := [], laidByText := true, laidKinds := [.data, .data, .data, .data, .sentinel, .sentinel, .pinned], laidTests := true, laidLooks := .later }
def RatThereUptoCardSaid : Prop := Claim7.holds Tryz.pinned (.plain (OpenSpec.upto ratThereSpec)) ratThereUptoCard

/-- THE SECOND FORM's CARD OF 'busbarlaw02.RatKnown'. -/
def ratKnownUptoCard : Claim7 := { stood := { row := ratKnownUptoRow, standIns := [], harness := (true, "9c4e3bcab3aef4dff40e03e57e8857c7c6c18d4e2565b8d397bac2894a630bf4"), looks := true }, kinds := [], alts := [], laidByText := true, laidKinds := [.data, .data, .data, .data, .handle, .sentinel, .sentinel, .pinned], laidTests := true, laidLooks := .later }
def RatKnownUptoCardSaid : Prop := Claim7.holds Tryz.pinned (.plain (OpenSpec.upto ratKnownSpec)) ratKnownUptoCard
end Rows
end Go.Proofs.YtajebceanonalaaGreatDoor
