/-
  DERIVED. GIVEN WITH THE SEED: THE CARDS: each row of YtlgbgobpdkilaaaGreatDoorRows.lean that lists a variable, with what it lists TIED to the program's text (the seventh form; the later family's looks); each row that meets fmt, with fmt's text TOLD by the authors' own Lean function (tested against real Go, not proved from fmt's source: count such statements apart). THE CARD IS WHAT COUNTS. Prove the row's statement (the work); the ties are given (YtlgbgobpdkilaaaGreatDoorTie.lean); close each card by the builder's one call (the guide's Derived/Test/ToyasCard.lean, 'card_holds'). Laid BY PROGRAM, IN A SANDBOX (cutbox-door.mjs). By AI agents, Wed Nov 11 2026. No macro, syntax, notation, axiom, sorry.
-/
import Derived.Test.YtlgbgobpdkilaaaGreatDoorRows
import GoSem.ClaimSeven
namespace Go.Proofs.YtlgbgobpdkilaaaGreatDoor
namespace Rows

/-- THE TIED CARD OF 'busbarlaw07.PrintMore'. -/
def printMoreCard : Claim7 := { stood := { row := printMoreRow, standIns := [], harness := (true, "84033d3a102226e5259c8bfb4ffafb339121e71ac85162b876ef7b7d4a7e0a26"), looks := true }, kinds := [], alts := [], laidByText := true, laidKinds := [.data, .data, .data, .data, .pinned], laidTests := true, laidLooks := .later }
def PrintMoreCardSaid : Prop := Claim7.holds Tryz.pinned (.plain (OpenSpec.ofChange printMoreSpec)) printMoreCard

/-- THE TIED CARD OF 'busbarlaw07.PrintKnown'. -/
def printKnownCard : Claim7 := { stood := { row := printKnownRow, standIns := [], harness := (true, "84033d3a102226e5259c8bfb4ffafb339121e71ac85162b876ef7b7d4a7e0a26"), looks := true }, kinds := [], alts := [], laidByText := true, laidKinds := [.data, .data, .data, .data, .handle, .pinned], laidTests := true, laidLooks := .later }
def PrintKnownCardSaid : Prop := Claim7.holds Tryz.pinned (.plain (OpenSpec.ofChange printKnownSpec)) printKnownCard

/-- THE TIED CARD OF 'busbarlaw07.PrintFile'. -/
def printFileCard : Claim7 := { stood := { row := printFileRow, standIns := [], harness := (true, "84033d3a102226e5259c8bfb4ffafb339121e71ac85162b876ef7b7d4a7e0a26"), looks := true }, kinds := [], alts := [], laidByText := true, laidKinds := [.data, .data, .data, .data, .handle, .pinned], laidTests := true, laidLooks := .later }
def PrintFileCardSaid : Prop := Claim7.holds Tryz.pinned (.plain (OpenSpec.ofChange printFileSpec)) printFileCard

/-- THE SECOND FORM's CARD OF 'busbarlaw07.PrintMore'. -/
def printMoreUptoCard : Claim7 := { stood := { row := printMoreUptoRow, standIns := [], harness := (true, "84033d3a102226e5259c8bfb4ffafb339121e71ac85162b876ef7b7d4a7e0a26"), looks := true }, kinds := [], alts := [], laidByText := true, laidKinds := [.data, .data, .data, .data, .pinned], laidTests := true, laidLooks := .later }
def PrintMoreUptoCardSaid : Prop := Claim7.holds Tryz.pinned (.plain (OpenSpec.upto printMoreSpec)) printMoreUptoCard

/-- THE SECOND FORM's CARD OF 'busbarlaw07.PrintKnown'. -/
def printKnownUptoCard : Claim7 := { stood := { row := printKnownUptoRow, standIns := [], harness := (true, "84033d3a102226e5259c8bfb4ffafb339121e71ac85162b876ef7b7d4a7e0a26"), looks := true }, kinds := [], alts := [], laidByText := true, laidKinds := [.data, .data, .data, .data, .handle, .pinned], laidTests := true, laidLooks := .later }
def PrintKnownUptoCardSaid : Prop := Claim7.holds Tryz.pinned (.plain (OpenSpec.upto printKnownSpec)) printKnownUptoCard

/-- THE SECOND FORM's CARD OF 'busbarlaw07.PrintFile'. -/
def printFileUptoCard : Claim7 := { stood := { row := printFileUptoRow, standIns := [], harness := (true, "84033d3a102226e5259c8bfb4ffafb339121e71ac85162b876ef7b7d4a7e0a26"), looks := true }, kinds := [], alts := [], laidByText := true, laidKinds := [.data, .data, .data, .data, .handle, .pinned], laidTests := true, laidLooks := .later }
def PrintFileUptoCardSaid : Prop := Claim7.holds Tryz.pinned (.plain (OpenSpec.upto printFileSpec)) printFileUptoCard
end Rows
end Go.Proofs.YtlgbgobpdkilaaaGreatDoor
