/-
  DERIVED. GIVEN WITH THE SEED: THE CARDS: each row of YtjgjckipfkkgiaaGreatDoorRows.lean that lists a variable, with what it lists TIED to the program's text (the seventh form; the later family's looks); each row that meets fmt, with fmt's text TOLD by the authors' own Lean function (tested against real Go, not proved from fmt's source: count such statements apart). THE CARD IS WHAT COUNTS. Prove the row's statement (the work); the ties are given (YtjgjckipfkkgiaaGreatDoorTie.lean); close each card by the builder's one call (the guide's Derived/Test/ToyasCard.lean, 'card_holds'). Laid BY PROGRAM, IN A SANDBOX (cutbox-door.mjs). By AI agents, Wed Nov 11 2026. No macro, syntax, notation, axiom, sorry.
-/
import Derived.Test.YtjgjckipfkkgiaaGreatDoorRows
import GoSem.ClaimSeven
namespace Go.Proofs.YtjgjckipfkkgiaaGreatDoor
namespace Rows

/-- THE TIED CARD OF 'busbarlaw06.ParseComments'. -/
def parseCommentsCard : Claim7 := { stood := { row := parseCommentsRow, standIns := [], harness := (true, "cf2ae9fef838e6bc5aa7e2736574a8091e6ef1f50af51cc204fc55062632a376"), looks := true }, kinds := [], alts := [], laidByText := true, laidKinds := [.data, .data, .data, .data, .handle, .sentinel, .sentinel, .pinned], laidTests := true, laidLooks := .later }
def ParseCommentsCardSaid : Prop := Claim7.holds Tryz.pinned (.plain (OpenSpec.ofChange parseCommentsSpec)) parseCommentsCard

/-- THE TIED CARD OF 'busbarlaw06.ParseAlone'. -/
def parseAloneCard : Claim7 := { stood := { row := parseAloneRow, standIns := [], harness := (true, "cf2ae9fef838e6bc5aa7e2736574a8091e6ef1f50af51cc204fc55062632a376"), looks := true }, kinds := [], alts := [], laidByText := true, laidKinds := [.data, .data, .data, .data, .handle, .sentinel, .sentinel, .pinned], laidTests := true, laidLooks := .later }
def ParseAloneCardSaid : Prop := Claim7.holds Tryz.pinned (.plain (OpenSpec.ofChange parseAloneSpec)) parseAloneCard

/-- THE TIED CARD OF 'busbarlaw06.ParseKnown'. -/
def parseKnownCard : Claim7 := { stood := { row := parseKnownRow, standIns := [], harness := (true, "cf2ae9fef838e6bc5aa7e2736574a8091e6ef1f50af51cc204fc55062632a376"), looks := true }, kinds := [], alts := [], laidByText := true, laidKinds := [.data, .data, .data, .data, .handle, .sentinel, .sentinel, .pinned], laidTests := true, laidLooks := .later }
def ParseKnownCardSaid : Prop := Claim7.holds Tryz.pinned (.plain (OpenSpec.ofChange parseKnownSpec)) parseKnownCard

/-- THE SECOND FORM's CARD OF 'busbarlaw06.ParseComments'. -/
def parseCommentsUptoCard : Claim7 := { stood := { row := parseCommentsUptoRow, standIns := [], harness := (true, "cf2ae9fef838e6bc5aa7e2736574a8091e6ef1f50af51cc204fc55062632a376"), looks := true }, kinds := [], alts := [], laidByText := true, laidKinds := [.data, .data, .data, .data, .handle, .sentinel, .sentinel, .pinned], laidTests := true, laidLooks := .later }
def ParseCommentsUptoCardSaid : Prop := Claim7.holds Tryz.pinned (.plain (OpenSpec.upto parseCommentsSpec)) parseCommentsUptoCard

/-- THE SECOND FORM's CARD OF 'busbarlaw06.ParseAlone'. -/
def parseAloneUptoCard : Claim7 := { stood := { row := parseAloneUptoRow, standIns := [], harness := (true, "cf2ae9fef838e6bc5aa7e2736574a8091e6ef1f50af51cc204fc55062632a376"), looks := true }, kinds := [], alts := [], laidByText := true, laidKinds := [.data, .data, .data, .data, .handle, .sentinel, .sentinel, .pinned], laidTests := true, laidLooks := .later }
def ParseAloneUptoCardSaid : Prop := Claim7.holds Tryz.pinned (.plain (OpenSpec.upto parseAloneSpec)) parseAloneUptoCard

/-- THE SECOND FORM's CARD OF 'busbarlaw06.ParseKnown'. -/
def parseKnownUptoCard : Claim7 := { stood := { row := parseKnownUptoRow, standIns := [], harness := (true, "cf2ae9fef838e6bc5aa7e2736574a8091e6ef1f50af51cc204fc55062632a376"), looks := true }, kinds := [], alts := [], laidByText := true, laidKinds := [.data, .data, .data, .data, .handle, .sentinel, .sentinel, .pinned], laidTests := true, laidLooks := .later }
def ParseKnownUptoCardSaid : Prop := Claim7.holds Tryz.pinned (.plain (OpenSpec.upto parseKnownSpec)) parseKnownUptoCard
end Rows
end Go.Proofs.YtjgjckipfkkgiaaGreatDoor
