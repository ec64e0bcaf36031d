/-
  DERIVED. GIVEN WITH THE SEED: THE CARDS: each row of YtampdbkafkcfdaaGreatDoorRows.lean that lists a variable, with what it lists TIED to the program's text (the seventh form; the later family's looks); each row that meets fmt, with fmt's text TOLD by the authors' own Lean function (tested against real Go, not proved from fmt's source: count such statements apart). THE CARD IS WHAT COUNTS. Prove the row's statement (the work); the ties are given (YtampdbkafkcfdaaGreatDoorTie.lean); close each card by the builder's one call (the guide's Derived/Test/ToyasCard.lean, 'card_holds'). Laid BY PROGRAM, IN A SANDBOX (cutbox-door.mjs). By AI agents, Wed Nov 11 2026. No macro, syntax, notation, axiom, sorry.
-/
import Derived.Test.YtampdbkafkcfdaaGreatDoorRows
import GoSem.ClaimSeven
namespace Go.Proofs.YtampdbkafkcfdaaGreatDoor
namespace Rows

/-- THE TIED CARD OF 'busbarlaw07.PrintMore'. -/
def printMoreCard : Claim7 := { stood := { row := printMoreRow, standIns := [], harness := (true, "4028b62d6dfdd3c3d2a70f364bb6fe49cefd7da2c42a844a0c9efd4b23a77a16"), looks := true }, kinds := [], alts := [], laidByText := true, laidKinds := [.data, .data, .data, .data, .pinned], laidTests := true, laidLooks := .later }
def PrintMoreCardSaid : Prop := Claim7.holds Tryz.pinned (.plain (OpenSpec.ofChange printMoreSpec)) printMoreCard

/-- THE TIED CARD OF 'busbarlaw07.PrintKnown'. -/
def printKnownCard : Claim7 := { stood := { row := printKnownRow, standIns := [], harness := (true, "4028b62d6dfdd3c3d2a70f364bb6fe49cefd7da2c42a844a0c9efd4b23a77a16"), looks := true }, kinds := [], alts := [], laidByText := true, laidKinds := [.data, .data, .data, .data, .handle, .pinned], laidTests := true, laidLooks := .later }
def PrintKnownCardSaid : Prop := Claim7.holds Tryz.pinned (.plain (OpenSpec.ofChange printKnownSpec)) printKnownCard

/-- THE SECOND FORM's CARD OF 'busbarlaw07.PrintMore'. -/
def printMoreUptoCard : Claim7 := { stood := { row := printMoreUptoRow, standIns := [], harness := (true, "4028b62d6dfdd3c3d2a70f364bb6fe49cefd7da2c42a844a0c9efd4b23a77a16"), looks := true }, kinds := [], alts := [], laidByText := true, laidKinds := [.data, .data, .data, .data, .pinned], laidTests := true, laidLooks := .later }
def PrintMoreUptoCardSaid : Prop := Claim7.holds Tryz.pinned (.plain (OpenSpec.upto printMoreSpec)) printMoreUptoCard

/-- THE SECOND FORM's CARD OF 'busbarlaw07.PrintKnown'. -/
def printKnownUptoCard : Claim7 := { stood := { row := printKnownUptoRow, standIns := [], harness := (true, "4028b62d6dfdd3c3d2a70f364bb6fe49cefd7da2c42a844a0c9efd4b23a77a16"), looks := true }, kinds := [], alts := [], laidByText := true, laidKinds := [.data, .data, .data, .data, .handle, .pinned], laidTests := true, laidLooks := .later }
def PrintKnownUptoCardSaid : Prop := Claim7.holds Tryz.pinned (.plain (OpenSpec.upto printKnownSpec)) printKnownUptoCard
end Rows
end Go.Proofs.YtampdbkafkcfdaaGreatDoor
