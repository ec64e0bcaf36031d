/-
  DERIVED. GIVEN WITH THE SEED: THE CARDS: each row of YtmifjfohanegiaaDoorRows.lean that lists a variable, with what it lists TIED to the program's text (the seventh form; the later family's looks); each row that meets fmt, with fmt's text TOLD by the authors' own Lean function (tested against real Go, not proved from fmt's source: count such statements apart). THE CARD IS WHAT COUNTS. Prove the row's statement (the work); the ties are given (YtmifjfohanegiaaDoorTie.lean); close each card by the builder's one call (the guide's Derived/Test/ToyasCard.lean, 'card_holds'). Laid BY PROGRAM, IN A SANDBOX (cutbox-door.mjs). By AI agents, Wed Nov 11 2026. No macro, syntax, notation, axiom, sorry.
-/
import Derived.Test.YtmifjfohanegiaaDoorRows
import GoSem.ClaimSeven
namespace Go.Proofs.YtmifjfohanegiaaDoor
namespace Rows

/-- THE TIED CARD OF 'busbarlaw04.LexScans'. -/
def lexScansCard : Claim7 := { stood := { row := lexScansRow, standIns := [], harness := (true, "e05fab2715ecbb6d9da5ce77991a3e4ced035846aea63f4ac8ba6dc6a9727c6b"), looks := true }, kinds := [], alts := [], laidByText := true, laidKinds := [.data, .handle, .pinned], laidTests := true, laidLooks := .later }
def LexScansCardSaid : Prop := Claim7.holds Tryd.pinned (.plain (OpenSpec.ofChange lexScansSpec)) lexScansCard

/-- THE SECOND FORM's CARD OF 'busbarlaw04.LexScans'. -/
def lexScansUptoCard : Claim7 := { stood := { row := lexScansUptoRow, standIns := [], harness := (true, "e05fab2715ecbb6d9da5ce77991a3e4ced035846aea63f4ac8ba6dc6a9727c6b"), looks := true }, kinds := [], alts := [], laidByText := true, laidKinds := [.data, .handle, .pinned], laidTests := true, laidLooks := .later }
def LexScansUptoCardSaid : Prop := Claim7.holds Tryd.pinned (.plain (OpenSpec.upto lexScansSpec)) lexScansUptoCard
end Rows
end Go.Proofs.YtmifjfohanegiaaDoor
