/-
  DERIVED. GIVEN WITH THE SEED: THE CARDS: each row of YtkblpaabknjckaaGreatDoorRows.lean that lists a variable, with what it lists TIED to the program's text (the seventh form; the later family's looks); each row that meets fmt, with fmt's text TOLD by the authors' own Lean function (tested against real Go, not proved from fmt's source: count such statements apart). THE CARD IS WHAT COUNTS. Prove the row's statement (the work); the ties are given (YtkblpaabknjckaaGreatDoorTie.lean); close each card by the builder's one call (the guide's Derived/Test/ToyasCard.lean, 'card_holds'). Laid BY PROGRAM, IN A SANDBOX (cutbox-door.mjs). By AI agents, Wed Nov 11 2026. No macro, syntax, notation, axiom, sorry.
-/
import Derived.Test.YtkblpaabknjckaaGreatDoorRows
import GoSem.ClaimSeven
namespace Go.Proofs.YtkblpaabknjckaaGreatDoor
namespace Rows

/-- THE TIED CARD OF 'busbarlaw07.PrintRead'. -/
def printReadCard : Claim7 := { stood := { row := printReadRow, standIns := [], harness := (true, "b8e161dbb78e92dce1e132bd9ba1cb80855308b3d0f13ba43806d3e46f673fbd"), looks := true }, kinds := [], alts := [], laidByText := true, laidKinds := [.data, .data, .data, .data, .handle, .sentinel, .sentinel, .pinned], laidTests := true, laidLooks := .later }
def PrintReadCardSaid : Prop := Claim7.holds Tryz.pinned (.plain (OpenSpec.ofChange printReadSpec)) printReadCard

/-- THE TIED CARD OF 'busbarlaw07.PrintBack'. -/
def printBackCard : Claim7 := { stood := { row := printBackRow, standIns := [], harness := (true, "b8e161dbb78e92dce1e132bd9ba1cb80855308b3d0f13ba43806d3e46f673fbd"), looks := true }, kinds := [], alts := [], laidByText := true, laidKinds := [.data, .data, .data, .data, .handle, .sentinel, .sentinel, .pinned], laidTests := true, laidLooks := .later }
def PrintBackCardSaid : Prop := Claim7.holds Tryz.pinned (.plain (OpenSpec.ofChange printBackSpec)) printBackCard

/-- THE SECOND FORM's CARD OF 'busbarlaw07.PrintRead'. -/
def printReadUptoCard : Claim7 := { stood := { row := printReadUptoRow, standIns := [], harness := (true, "b8e161dbb78e92dce1e132bd9ba1cb80855308b3d0f13ba43806d3e46f673fbd"), looks := true }, kinds := [], alts := [], laidByText := true, laidKinds := [.data, .data, .data, .data, .handle, .sentinel, .sentinel, .pinned], laidTests := true, laidLooks := .later }
def PrintReadUptoCardSaid : Prop := Claim7.holds Tryz.pinned (.plain (OpenSpec.upto printReadSpec)) printReadUptoCard

/-- THE SECOND FORM's CARD OF 'busbarlaw07.PrintBack'. -/
def printBackUptoCard : Claim7 := { stood := { row := printBackUptoRow, standIns := [], harness := (true, "b8e161dbb78e92dce1e132bd9ba1cb80855308b3d0f13ba43806d3e46f673fbd"), looks := true }, kinds := [], alts := [], laidByText := true, laidKinds := [.data, .data, .data, .data, .handle, .sentinel, .sentinel, .pinned], laidTests := true, laidLooks := .later }
def PrintBackUptoCardSaid : Prop := Claim7.holds Tryz.pinned (.plain (OpenSpec.upto printBackSpec)) printBackUptoCard
end Rows
end Go.Proofs.YtkblpaabknjckaaGreatDoor
