/-
  DERIVED. GIVEN WITH THE SEED: THE CARDS: each row of YtaipghojggiopaaDoorRows.lean that lists a variable, with what it lists TIED to the program's text (the seventh form; the later family's looks); each row that meets fmt, with fmt's text TOLD by the authors' own Lean function (tested against real Go, not proved from fmt's source: count such statements apart). THE CARD IS WHAT COUNTS. Prove the row's statement (the work); the ties are given (YtaipghojggiopaaDoorTie.lean); close each card by the builder's one call (the guide's Derived/Test/ToyasCard.lean, 'card_holds'). Laid BY PROGRAM, IN A SANDBOX (cutbox-door.mjs). By AI agents, Wed Nov 11 2026. No macro, syntax, notation, axiom, sorry.
-/
import Derived.Test.YtaipghojggiopaaDoorRows
import GoSem.ClaimSeven
namespace Go.Proofs.YtaipghojggiopaaDoor
namespace Rows

/-- THE TIED CARD OF 'busbarlaw02.RatNews'. -/
def ratNewsCard : Claim7 := { stood := { row := ratNewsRow, standIns := [], harness := (true, "362c579b54c94026be312731d15643496d7a1ac13b6a294f4c84734faea28394"), looks := true }, kinds := [], alts := [], laidByText := true, laidKinds := [.handle], laidTests := true, laidLooks := .later }
def RatNewsCardSaid : Prop := Claim7.holds Tryd.pinned (.plain (OpenSpec.ofChange ratNewsSpec)) ratNewsCard

/-- THE TIED CARD OF 'busbarlaw02.RatHolds'. -/
def ratHoldsCard : Claim7 := { stood := { row := ratHoldsRow, standIns := [], harness := (true, "362c579b54c94026be312731d15643496d7a1ac13b6a294f4c84734faea28394"), looks := true }, kinds := [], alts := [], laidByText := true, laidKinds := [.handle], laidTests := true, laidLooks := .later }
def RatHoldsCardSaid : Prop := Claim7.holds Tryd.pinned (.plain (OpenSpec.ofChange ratHoldsSpec)) ratHoldsCard

/-- THE TIED CARD OF 'busbarlaw28.DeskWords'. -/
def deskWordsCard : Claim7 := { stood := { row := deskWordsRow, standIns := [], harness := (true, "362c579b54c94026be312731d15643496d7a1ac13b6a294f4c84734faea28394"), looks := true }, kinds := [], alts := [], laidByText := true, laidKinds := [.handle], laidTests := true, laidLooks := .later }
def DeskWordsCardSaid : Prop := Claim7.holds Tryd.pinned (.plain (OpenSpec.ofChange deskWordsSpec)) deskWordsCard

/-- THE TIED CARD OF 'busbarlaw02.RatSums'. -/
def ratSumsCard : Claim7 := { stood := { row := ratSumsRow, standIns := [], harness := (true, "362c579b54c94026be312731d15643496d7a1ac13b6a294f4c84734faea28394"), looks := true }, kinds := [], alts := [], laidByText := true, laidKinds := [.handle], laidTests := true, laidLooks := .later }
def RatSumsCardSaid : Prop := Claim7.holds Tryd.pinned (.plain (OpenSpec.ofChange ratSumsSpec)) ratSumsCard

/-- THE SECOND FORM's CARD OF 'busbarlaw02.RatNews'. -/
def ratNewsUptoCard : Claim7 := { stood := { row := ratNewsUptoRow, standIns := [], harness := (true, "362c579b54c94026be312731d15643496d7a1ac13b6a294f4c84734faea28394"), looks := true }, kinds := [], alts := [], laidByText := true, laidKinds := [.handle], laidTests := true, laidLooks := .later }
def RatNewsUptoCardSaid : Prop := Claim7.holds Tryd.pinned (.plain (OpenSpec.upto ratNewsSpec)) ratNewsUptoCard

/-- THE SECOND FORM's CARD OF 'busbarlaw02.RatHolds'. -/
def ratHoldsUptoCard : Claim7 := { stood := { row := ratHoldsUptoRow, standIns := [], harness := (true, "362c579b54c94026be312731d15643496d7a1ac13b6a294f4c84734faea28394"), looks := true }, kinds := [], alts := [], laidByText := true, laidKinds := [.handle], laidTests := true, laidLooks := .later }
def RatHoldsUptoCardSaid : Prop := Claim7.holds Tryd.pinned (.plain (OpenSpec.upto ratHoldsSpec)) ratHoldsUptoCard

/-- THE SECOND FORM's CARD OF 'busbarlaw28.DeskWords'. -/
def deskWordsUptoCard : Claim7 := { stood := { row := deskWordsUptoRow, standIns := [], harness := (true, "362c579b54c94026be312731d15643496d7a1ac13b6a294f4c84734faea28394"), looks := true }, kinds := [], alts := [], laidByText := true, laidKinds := [.handle], laidTests := true, laidLooks := .later }
def DeskWordsUptoCardSaid : Prop := Claim7.holds Tryd.pinned (.plain (OpenSpec.upto deskWordsSpec)) deskWordsUptoCard

/-- THE SECOND FORM's CARD OF 'busbarlaw02.RatSums'. -/
def ratSumsUptoCard : Claim7 := { stood := { row := ratSumsUptoRow, standIns := [], harness := (true, "362c579b54c94026be312731d15643496d7a1ac13b6a294f4c84734faea28394"), looks := true }, kinds := [], alts := [], laidByText := true, laidKinds := [.handle], laidTests := true, laidLooks := .later }
def RatSumsUptoCardSaid : Prop := Claim7.holds Tryd.pinned (.plain (OpenSpec.upto ratSumsSpec)) ratSumsUptoCard
end Rows
end Go.Proofs.YtaipghojggiopaaDoor
