/-
  NARROWER THAN 'FOR EVERY INPUT', by the rows' own cells (each row's printed sentence says how): FilterLess: laid · FilterSame: laid · FilterNeeded: laid · FilterParts: laid · FilterKnown: laid.
  DERIVED. THE GIVEN ROWS OF THIS SEAT. 5 by the template 'for every input the law returns true; each argument reads behind the call as it read before'; 0 by the template 'total and deterministic' (their statements: YtflghgilcooiiaaDoorTotals.lean).
  GIVEN WITH THE SEED: the statements are not yours to turn. If you find one false, say at which input.
  Laid BY PROGRAM, IN A SANDBOX (cutbox-rows.mjs): the forced cells as the released guide's own fill.sh prints them over the translation d7b17f91763231fc… (all of the seat's roots in one cut). By AI agents, Wed Nov 11 2026. No macro, syntax, notation, axiom, sorry.
-/
import Derived.Test.YtflghgilcooiiaaDoorChecked
import GoSem.Claim
import GoSem.ClaimJoined
import GoSem.ClaimMapViews
import Derived.JoinedTies
import Derived.KernelRfl
namespace Go.Proofs.YtflghgilcooiiaaDoor
/- THE CELL 'sum', in the pinned program and in every row, IS THE sha256 OF THE DUMP (.gsa) THAT YtflghgilcooiiaaDoorProg.lean LOADS. Nothing in Lean hashes anything: it is a label: what it is worth is what the hold of that sum in a sandbox is worth. -/
noncomputable def Tryd.pinned : Pinned := { name := "ytflghgilcooiiaadoor", sum := "d7b17f91763231fc9adc637fb37e6f1ec365cd2c1fcb4bdfc5414cd44cd13d5e", checked := Tryd.checked }
namespace Rows
def none {H : Type} : Left H := { results := [], args := [] }

/- WHAT THE LISTED PACKAGE-LEVEL VARIABLES READ AS WHEN THE CALL BEGINS. Each datum BY PROGRAM (the guide's laid-datum.mjs) off the statement by which the dump's own 'gosem.cut.vars' lays the variable. In a bare row this is a premise. The card (YtflghgilcooiiaaDoorCards.lean) ties it to the program's text. -/
def laid_busbar_filter_none {H : Type} : DataW H := .agg [.lit (.bool false), .lit (.int .u32 2147483648), .lit (.int .u32 2147483648)]

/-- 'busbarlaw24.FilterLess': WHATEVER THE INPUT: true; the input reads as it did. -/
def filterLessSpec : ChangeSpec := { name := "filterLess", fn := fun _ => fun
  | [d] => { results := [.lit (.bool true)], args := [d] }
  | _ => none }
def filterLessRow : OpenClaim := { program := "ytflghgilcooiiaadoor", sum := "d7b17f91763231fc9adc637fb37e6f1ec365cd2c1fcb4bdfc5414cd44cd13d5e", func := "busbar/busbarlaw24.FilterLess", spec := "filterLess", named := ["busbar/filter.none"], apart := false, laid := [("busbar/filter.none", laid_busbar_filter_none)] }
def FilterLessSaid : Prop := filterLessRow.holds Tryd.pinned (OpenSpec.ofChange filterLessSpec)

/-- ITS FALSE NEIGHBOUR: 'it returns false'. Refute it at one input. -/
def filterLessWrong : ChangeSpec := { name := "filterLess", fn := fun _ => fun
  | [d] => { results := [.lit (.bool false)], args := [d] }
  | _ => none }
def FilterLessWrongFalsely : Prop := filterLessRow.holds Tryd.pinned (OpenSpec.ofChange filterLessWrong)

/-- 'busbarlaw24.FilterSame': WHATEVER THE INPUT: true; the input reads as it did. -/
def filterSameSpec : ChangeSpec := { name := "filterSame", fn := fun _ => fun
  | [d1, d2, d3] => { results := [.lit (.bool true)], args := [d1, d2, d3] }
  | _ => none }
def filterSameRow : OpenClaim := { program := "ytflghgilcooiiaadoor", sum := "d7b17f91763231fc9adc637fb37e6f1ec365cd2c1fcb4bdfc5414cd44cd13d5e", func := "busbar/busbarlaw24.FilterSame", spec := "filterSame", named := ["busbar/filter.none"], apart := false, laid := [("busbar/filter.none", laid_busbar_filter_none)] }
def FilterSameSaid : Prop := filterSameRow.holds Tryd.pinned (OpenSpec.ofChange filterSameSpec)

/-- ITS FALSE NEIGHBOUR: 'it returns false'. Refute it at one input. -/
def filterSameWrong : ChangeSpec := { name := "filterSame", fn := fun _ => fun
  | [d1, d2, d3] => { results := [.lit (.bool false)], args := [d1, d2, d3] }
  | _ => none }
def FilterSameWrongFalsely : Prop := filterSameRow.holds Tryd.pinned (OpenSpec.ofChange filterSameWrong)

/-- 'busbarlaw24.FilterNeeded': WHATEVER THE INPUT: true; the input reads as it did. -/
def filterNeededSpec : ChangeSpec := { name := "filterNeeded", fn := fun _ => fun
  | [d] => { results := [.lit (.bool true)], args := [d] }
  | _ => none }
def filterNeededRow : OpenClaim := { program := "ytflghgilcooiiaadoor", sum := "d7b17f91763231fc9adc637fb37e6f1ec365cd2c1fcb4bdfc5414cd44cd13d5e", func := "busbar/busbarlaw24.FilterNeeded", spec := "filterNeeded", named := ["busbar/filter.none"], apart := false, laid := [("busbar/filter.none", laid_busbar_filter_none)] }
def FilterNeededSaid : Prop := filterNeededRow.holds Tryd.pinned (OpenSpec.ofChange filterNeededSpec)

/-- ITS FALSE NEIGHBOUR: 'it returns false'. Refute it at one input. -/
def filterNeededWrong : ChangeSpec := { name := "filterNeeded", fn := fun _ => fun
  | [d] => { results := [.lit (.bool false)], args := [d] }
  | _ => none }
def FilterNeededWrongFalsely : Prop := filterNeededRow.holds Tryd.pinned (OpenSpec.ofChange filterNeededWrong)

/-- 'busbarlaw24.FilterParts': WHATEVER THE INPUT: true; the input reads as it did. -/
def filterPartsSpec : ChangeSpec := { name := "filterParts", fn := fun _ => fun
  | [d1, d2, d3] => { results := [.lit (.bool true)], args := [d1, d2, d3] }
  | _ => none }
def filterPartsRow : OpenClaim := { program := "ytflghgilcooiiaadoor", sum := "d7b17f91763231fc9adc637fb37e6f1ec365cd2c1fcb4bdfc5414cd44cd13d5e", func := "busbar/busbarlaw24.FilterParts", spec := "filterParts", named := ["busbar/filter.none"], apart := false, laid := [("busbar/filter.none", laid_busbar_filter_none)] }
def FilterPartsSaid : Prop := filterPartsRow.holds Tryd.pinned (OpenSpec.ofChange filterPartsSpec)

/-- ITS FALSE NEIGHBOUR: 'it returns false'. Refute it at one input. -/
def filterPartsWrong : ChangeSpec := { name := "filterParts", fn := fun _ => fun
  | [d1, d2, d3] => { results := [.lit (.bool false)], args := [d1, d2, d3] }
  | _ => none }
def FilterPartsWrongFalsely : Prop := filterPartsRow.holds Tryd.pinned (OpenSpec.ofChange filterPartsWrong)

/-- 'busbarlaw24.FilterKnown': WHATEVER THE INPUT: true; the input reads as it did. -/
def filterKnownSpec : ChangeSpec := { name := "filterKnown", fn := fun _ => fun
  | [] => { results := [.lit (.bool true)], args := [] }
  | _ => none }
def filterKnownRow : OpenClaim := { program := "ytflghgilcooiiaadoor", sum := "d7b17f91763231fc9adc637fb37e6f1ec365cd2c1fcb4bdfc5414cd44cd13d5e", func := "busbar/busbarlaw24.FilterKnown", spec := "filterKnown", named := ["busbar/filter.none"], apart := false, laid := [("busbar/filter.none", laid_busbar_filter_none)] }
def FilterKnownSaid : Prop := filterKnownRow.holds Tryd.pinned (OpenSpec.ofChange filterKnownSpec)

/-- ITS FALSE NEIGHBOUR: 'it returns false'. Refute it at one input. -/
def filterKnownWrong : ChangeSpec := { name := "filterKnown", fn := fun _ => fun
  | [] => { results := [.lit (.bool false)], args := [] }
  | _ => none }
def FilterKnownWrongFalsely : Prop := filterKnownRow.holds Tryd.pinned (OpenSpec.ofChange filterKnownWrong)

/- THE SECOND FORM. 'bulk': how many values and letters a reading holds, each counted each time it is reached (what is shared counts as often as it is met; a slice's spare places count too). A statement '..UptoSaid' is the law's where the arguments, and the package variables that the reading takes, are together of bulk at most 1048576: NARROWER than '..Said'. Prove '..Said' where nothing that the law and all that it calls make is longer than what came in: it says more and counts as full. Else prove '..UptoSaid'. A law counts once. -/
mutual
def uptoBulk {H : Type} : DataW H → Nat
  | .lit (.string bytes) => bytes.length + 1
  | .lit _ => 1
  | .nil => 1
  | .ptr d => uptoBulk d + 1
  | .slice elems spare => uptoBulkAll elems + uptoBulkAll spare + 1
  | .agg parts => uptoBulkAll parts + 1
  | .iface _ d => uptoBulk d + 1
  | .map entries => uptoBulkEntries entries + 1
  | .held _ => 1
def uptoBulkAll {H : Type} : List (DataW H) → Nat
  | [] => 0
  | d :: r => uptoBulk d + uptoBulkAll r
def uptoBulkEntries {H : Type} : List (Lit × DataW H) → Nat
  | [] => 0
  | x :: r => uptoBulkEntry x + uptoBulkEntries r
def uptoBulkEntry {H : Type} : Lit × DataW H → Nat
  | (.string bytes, d) => bytes.length + uptoBulk d + 1
  | (_, d) => uptoBulk d + 1
 end
def uptoSmall : (H : Type) → List (DataW H) → Bool := fun _ ds => decide (uptoBulkAll ds ≤ 1048576)
def OpenSpec.upto (s : _root_.Go.ChangeSpec) : _root_.Go.OpenSpec := { _root_.Go.OpenSpec.ofChange s with cond := some uptoSmall }

/-- 'busbarlaw24.FilterLess', WHERE WHAT IT READS IS OF BULK AT MOST 1048576: true; the input reads as it did. -/
def filterLessUptoRow : OpenClaim := { program := "ytflghgilcooiiaadoor", sum := "d7b17f91763231fc9adc637fb37e6f1ec365cd2c1fcb4bdfc5414cd44cd13d5e", func := "busbar/busbarlaw24.FilterLess", spec := "filterLess", named := ["busbar/filter.none"], apart := false, laid := [("busbar/filter.none", laid_busbar_filter_none)], narrowed := true }
def FilterLessUptoSaid : Prop := filterLessUptoRow.holds Tryd.pinned (OpenSpec.upto filterLessSpec)

/-- 'busbarlaw24.FilterSame', WHERE WHAT IT READS IS OF BULK AT MOST 1048576: true; the input reads as it did. -/
def filterSameUptoRow : OpenClaim := { program := "ytflghgilcooiiaadoor", sum := "d7b17f91763231fc9adc637fb37e6f1ec365cd2c1fcb4bdfc5414cd44cd13d5e", func := "busbar/busbarlaw24.FilterSame", spec := "filterSame", named := ["busbar/filter.none"], apart := false, laid := [("busbar/filter.none", laid_busbar_filter_none)], narrowed := true }
def FilterSameUptoSaid : Prop := filterSameUptoRow.holds Tryd.pinned (OpenSpec.upto filterSameSpec)

/-- 'busbarlaw24.FilterNeeded', WHERE WHAT IT READS IS OF BULK AT MOST 1048576: true; the input reads as it did. -/
def filterNeededUptoRow : OpenClaim := { program := "ytflghgilcooiiaadoor", sum := "d7b17f91763231fc9adc637fb37e6f1ec365cd2c1fcb4bdfc5414cd44cd13d5e", func := "busbar/busbarlaw24.FilterNeeded", spec := "filterNeeded", named := ["busbar/filter.none"], apart := false, laid := [("busbar/filter.none", laid_busbar_filter_none)], narrowed := true }
def FilterNeededUptoSaid : Prop := filterNeededUptoRow.holds Tryd.pinned (OpenSpec.upto filterNeededSpec)

/-- 'busbarlaw24.FilterParts', WHERE WHAT IT READS IS OF BULK AT MOST 1048576: true; the input reads as it did. -/
def filterPartsUptoRow : OpenClaim := { program := "ytflghgilcooiiaadoor", sum := "d7b17f91763231fc9adc637fb37e6f1ec365cd2c1fcb4bdfc5414cd44cd13d5e", func := "busbar/busbarlaw24.FilterParts", spec := "filterParts", named := ["busbar/filter.none"], apart := false, laid := [("busbar/filter.none", laid_busbar_filter_none)], narrowed := true }
def FilterPartsUptoSaid : Prop := filterPartsUptoRow.holds Tryd.pinned (OpenSpec.upto filterPartsSpec)

/-- 'busbarlaw24.FilterKnown', WHERE WHAT IT READS IS OF BULK AT MOST 1048576: true; the input reads as it did. -/
def filterKnownUptoRow : OpenClaim := { program := "ytflghgilcooiiaadoor", sum := "d7b17f91763231fc9adc637fb37e6f1ec365cd2c1fcb4bdfc5414cd44cd13d5e", func := "busbar/busbarlaw24.FilterKnown", spec := "filterKnown", named := ["busbar/filter.none"], apart := false, laid := [("busbar/filter.none", laid_busbar_filter_none)], narrowed := true }
def FilterKnownUptoSaid : Prop := filterKnownUptoRow.holds Tryd.pinned (OpenSpec.upto filterKnownSpec)

end Rows
end Go.Proofs.YtflghgilcooiiaaDoor
