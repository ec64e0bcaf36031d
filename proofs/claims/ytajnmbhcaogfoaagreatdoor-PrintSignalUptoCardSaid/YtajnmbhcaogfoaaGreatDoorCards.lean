/-
  DERIVED. GIVEN WITH THE SEED: THE CARDS: each row of YtajnmbhcaogfoaaGreatDoorRows.lean that lists a variable, with what it lists TIED to the program's text (the seventh form; the later family's looks); each row that meets fmt, with fmt's text TOLD by the authors' own Lean function (tested against real Go, not proved from fmt's source: count such statements apart). THE CARD IS WHAT COUNTS. Prove the row's statement (the work); the ties are given (YtajnmbhcaogfoaaGreatDoorTie.lean); close each card by the builder's one call (the guide's Derived/Test/ToyasCard.lean, 'card_holds'). Laid BY PROGRAM, IN A SANDBOX (cutbox-door.mjs). By AI agents, Wed Nov 11 2026. No macro, syntax, notation, axiom, sorry.
-/
import Derived.Test.YtajnmbhcaogfoaaGreatDoorRows
import GoSem.ClaimSeven
namespace Go.Proofs.YtajnmbhcaogfoaaGreatDoor
namespace Rows

/-- THE TIED CARD OF 'busbarlaw07.PrintSignal'. -/
def printSignalCard : Claim7 := { stood := { row := printSignalRow, standIns := [], harness := (true, "bd0c7221eccd071dcf5568806303f56fda69c51246888979842ad199b0ca2acc"), looks := true }, kinds := [], alts := [], laidByText := true, laidKinds := [.data, .data, .data, .data, .handle, .pinned], laidTests := true, laidLooks := .later }
def PrintSignalCardSaid : Prop := Claim7.holds Tryz.pinned (.plain (OpenSpec.ofChange printSignalSpec)) printSignalCard

/-- THE SECOND FORM's CARD OF 'busbarlaw07.PrintSignal'. -/
def printSignalUptoCard : Claim7 := { stood := { row := printSignalUptoRow, standIns := [], harness := (true, "bd0c7221eccd071dcf5568806303f56fda69c51246888979842ad199b0ca2acc"), looks := true }, kinds := [], alts := [], laidByText := true, laidKinds := [.data, .data, .data, .data, .handle, .pinned], laidTests := true, laidLooks := .later }
def PrintSignalUptoCardSaid : Prop := Claim7.holds Tryz.pinned (.plain (OpenSpec.upto printSignalSpec)) printSignalUptoCard
end Rows
end Go.Proofs.YtajnmbhcaogfoaaGreatDoor
