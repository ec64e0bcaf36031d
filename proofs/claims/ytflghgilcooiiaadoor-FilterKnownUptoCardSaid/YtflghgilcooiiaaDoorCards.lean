/-
  DERIVED. GIVEN WITH THE SEED: THE CARDS: each row of YtflghgilcooiiaaDoorRows.lean that lists a variable, with what it lists TIED to the program's text (the seventh form; the later family's looks); each row that meets fmt, with fmt's text TOLD by the authors' own Lean function (tested against real Go, not proved from fmt's source: count such statements apart). THE CARD IS WHAT COUNTS. Prove the row's statement (the work); the ties are given (YtflghgilcooiiaaDoorTie.lean); close each card by the builder's one call (the guide's Derived/Test/ToyasCard.lean, 'card_holds'). Laid BY PROGRAM, IN A SANDBOX (cutbox-door.mjs). By AI agents, Wed Nov 11 2026. No macro, syntax, notation, axiom, sorry.
-/
import Derived.Test.YtflghgilcooiiaaDoorRows
import GoSem.ClaimSeven
namespace Go.Proofs.YtflghgilcooiiaaDoor
namespace Rows

/-- THE TIED CARD OF 'busbarlaw24.FilterLess'. -/
def filterLessCard : Claim7 := { stood := { row := filterLessRow, standIns := [], harness := (true, "cc7886a4851a41be2b7eb38036ef044b35845815fca7f7a55eb4043357e4317a"), looks := false }, kinds := [], alts := [], laidByText := true, laidKinds := [.data], laidTests := true, laidLooks := .later }
def FilterLessCardSaid : Prop := Claim7.holds Tryd.pinned (.plain (OpenSpec.ofChange filterLessSpec)) filterLessCard

/-- THE TIED CARD OF 'busbarlaw24.FilterSame'. -/
def filterSameCard : Claim7 := { stood := { row := filterSameRow, standIns := [], harness := (true, "cc7886a4851a41be2b7eb38036ef044b35845815fca7f7a55eb4043357e4317a"), looks := false }, kinds := [], alts := [], laidByText := true, laidKinds := [.data], laidTests := true, laidLooks := .later }
def FilterSameCardSaid : Prop := Claim7.holds Tryd.pinned (.plain (OpenSpec.ofChange filterSameSpec)) filterSameCard

/-- THE TIED CARD OF 'busbarlaw24.FilterNeeded'. -/
def filterNeededCard : Claim7 := { stood := { row := filterNeededRow, standIns := [], harness := (true, "cc7886a4851a41be2b7eb38036ef044b35845815fca7f7a55eb4043357e4317a"), looks := false }, kinds := [], alts := [], laidByText := true, laidKinds := [.data], laidTests := true, laidLooks := .later }
def FilterNeededCardSaid : Prop := Claim7.holds Tryd.pinned (.plain (OpenSpec.ofChange filterNeededSpec)) filterNeededCard

/-- THE TIED CARD OF 'busbarlaw24.FilterParts'. -/
def filterPartsCard : Claim7 := { stood := { row := filterPartsRow, standIns := [], harness := (true, "cc7886a4851a41be2b7eb38036ef044b35845815fca7f7a55eb4043357e4317a"), looks := false }, kinds := [], alts := [], laidByText := true, laidKinds := [.data], laidTests := true, laidLooks := .later }
def FilterPartsCardSaid : Prop := Claim7.holds Tryd.pinned (.plain (OpenSpec.ofChange filterPartsSpec)) filterPartsCard

/-- THE TIED CARD OF 'busbarlaw24.FilterKnown'. -/
def filterKnownCard : Claim7 := { stood := { row := filterKnownRow, standIns := [], harness := (true, "cc7886a4851a41be2b7eb38036ef044b35845815fca7f7a55eb4043357e4317a"), looks := false }, kinds := [], alts := [], laidByText := true, laidKinds := [.data], laidTests := true, laidLooks := .later }
def FilterKnownCardSaid : Prop := Claim7.holds Tryd.pinned (.plain (OpenSpec.ofChange filterKnownSpec)) filterKnownCard

/-- THE SECOND FORM's CARD OF 'busbarlaw24.FilterLess'. -/
def filterLessUptoCard : Claim7 := { stood := { row := filterLessUptoRow, standIns := [], harness := (true, "cc7886a4851a41be2b7eb38036ef044b35845815fca7f7a55eb4043357e4317a"), looks := false }, kinds := [], alts := [], laidByText := true, laidKinds := [.data], laidTests := true, laidLooks := .later }
def FilterLessUptoCardSaid : Prop := Claim7.holds Tryd.pinned (.plain (OpenSpec.upto filterLessSpec)) filterLessUptoCard

/-- THE SECOND FORM's CARD OF 'busbarlaw24.FilterSame'. -/
def filterSameUptoCard : Claim7 := { stood := { row := filterSameUptoRow, standIns := [], harness := (true, "cc7886a4851a41be2b7eb38036ef044b35845815fca7f7a55eb4043357e4317a"), looks := false }, kinds := [], alts := [], laidByText := true, laidKinds := [.data], laidTests := true, laidLooks := .later }
def FilterSameUptoCardSaid : Prop := Claim7.holds Tryd.pinned (.plain (OpenSpec.upto filterSameSpec)) filterSameUptoCard

/-- THE SECOND FORM's CARD OF 'busbarlaw24.FilterNeeded'. -/
def filterNeededUptoCard : Claim7 := { stood := { row := filterNeededUptoRow, standIns := [], harness := (true, "cc7886a4851a41be2b7eb38036ef044b35845815fca7f7a55eb4043357e4317a"), looks := false }, kinds := [], alts := [], laidByText := true, laidKinds := [.data], laidTests := true, laidLooks := .later }
def FilterNeededUptoCardSaid : Prop := Claim7.holds Tryd.pinned (.plain (OpenSpec.upto filterNeededSpec)) filterNeededUptoCard

/-- THE SECOND FORM's CARD OF 'busbarlaw24.FilterParts'. -/
def filterPartsUptoCard : Claim7 := { stood := { row := filterPartsUptoRow, standIns := [], harness := (true, "cc7886a4851a41be2b7eb38036ef044b35845815fca7f7a55eb4043357e4317a"), looks := false }, kinds := [], alts := [], laidByText := true, laidKinds := [.data], laidTests := true, laidLooks := .later }
def FilterPartsUptoCardSaid : Prop := Claim7.holds Tryd.pinned (.plain (OpenSpec.upto filterPartsSpec)) filterPartsUptoCard

/-- THE SECOND FORM's CARD OF 'busbarlaw24.FilterKnown'. -/
def filterKnownUptoCard : Claim7 := { stood := { row := filterKnownUptoRow, standIns := [], harness := (true, "cc7886a4851a41be2b7eb38036ef044b35845815fca7f7a55eb4043357e4317a"), looks := false }, kinds := [], alts := [], laidByText := true, laidKinds := [.data], laidTests := true, laidLooks := .later }
def FilterKnownUptoCardSaid : Prop := Claim7.holds Tryd.pinned (.plain (OpenSpec.upto filterKnownSpec)) filterKnownUptoCard
end Rows
end Go.Proofs.YtflghgilcooiiaaDoor
