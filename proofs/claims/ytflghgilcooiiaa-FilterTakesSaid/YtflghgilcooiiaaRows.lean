/-
  No cell of these rows narrows 'for every input' (looked for: loops, veiled, ifaces, maps, wideKeys, modest, calm, conditions, laid).
  DERIVED. THE GIVEN ROWS OF THIS SEAT. 8 by the template 'for every input the law returns true; each argument reads behind the call as it read before'; 0 by the template 'total and deterministic' (their statements: YtflghgilcooiiaaTotals.lean).
  GIVEN WITH THE SEED: the statements are not yours to turn. If you find one false, say at which input.
  Laid BY PROGRAM, IN A SANDBOX (cutbox-rows.mjs): the forced cells as the released guide's own fill.sh prints them over the translation ba62da09409360ca… (all of the seat's roots in one cut). By AI agents, Wed Nov 11 2026. No macro, syntax, notation, axiom, sorry.
-/
import Derived.Test.YtflghgilcooiiaaChecked
import GoSem.Claim
import GoSem.ClaimJoined
import GoSem.ClaimMapViews
import Derived.JoinedTies
import Derived.KernelRfl
namespace Go.Proofs.Ytflghgilcooiiaa
/- THE CELL 'sum', in the pinned program and in every row, IS THE sha256 OF THE DUMP (.gsa) THAT YtflghgilcooiiaaProg.lean LOADS. Nothing in Lean hashes anything: it is a label: what it is worth is what the hold of that sum in a sandbox is worth. -/
noncomputable def Try.pinned : Pinned := { name := "ytflghgilcooiiaa", sum := "ba62da09409360ca52d33342b726e36146b18cccf87c1ae4e6980b231306f2f6", checked := Try.checked }
namespace Rows
def none {H : Type} : Left H := { results := [], args := [] }

/-- 'busbarlaw24.FilterTakes': WHATEVER THE INPUT: true; the input reads as it did. -/
def filterTakesSpec : ChangeSpec := { name := "filterTakes", fn := fun _ => fun
  | [d1, d2] => { results := [.lit (.bool true)], args := [d1, d2] }
  | _ => none }
def filterTakesRow : OpenClaim := { program := "ytflghgilcooiiaa", sum := "ba62da09409360ca52d33342b726e36146b18cccf87c1ae4e6980b231306f2f6", func := "busbar/busbarlaw24.FilterTakes", spec := "filterTakes", apart := false }
def FilterTakesSaid : Prop := filterTakesRow.holds Try.pinned (OpenSpec.ofChange filterTakesSpec)

/-- ITS FALSE NEIGHBOUR: 'it returns false'. Refute it at one input. -/
def filterTakesWrong : ChangeSpec := { name := "filterTakes", fn := fun _ => fun
  | [d1, d2] => { results := [.lit (.bool false)], args := [d1, d2] }
  | _ => none }
def FilterTakesWrongFalsely : Prop := filterTakesRow.holds Try.pinned (OpenSpec.ofChange filterTakesWrong)

/-- 'busbarlaw20.CrcSums': WHATEVER THE INPUT: true; the input reads as it did. -/
def crcSumsSpec : ChangeSpec := { name := "crcSums", fn := fun _ => fun
  | [d] => { results := [.lit (.bool true)], args := [d] }
  | _ => none }
def crcSumsRow : OpenClaim := { program := "ytflghgilcooiiaa", sum := "ba62da09409360ca52d33342b726e36146b18cccf87c1ae4e6980b231306f2f6", func := "busbar/busbarlaw20.CrcSums", spec := "crcSums", apart := false }
def CrcSumsSaid : Prop := crcSumsRow.holds Try.pinned (OpenSpec.ofChange crcSumsSpec)

/-- ITS FALSE NEIGHBOUR: 'it returns false'. Refute it at one input. -/
def crcSumsWrong : ChangeSpec := { name := "crcSums", fn := fun _ => fun
  | [d] => { results := [.lit (.bool false)], args := [d] }
  | _ => none }
def CrcSumsWrongFalsely : Prop := crcSumsRow.holds Try.pinned (OpenSpec.ofChange crcSumsWrong)

/-- 'busbarlaw20.CrcCounts': WHATEVER THE INPUT: true; the input reads as it did. -/
def crcCountsSpec : ChangeSpec := { name := "crcCounts", fn := fun _ => fun
  | [d1, d2] => { results := [.lit (.bool true)], args := [d1, d2] }
  | _ => none }
def crcCountsRow : OpenClaim := { program := "ytflghgilcooiiaa", sum := "ba62da09409360ca52d33342b726e36146b18cccf87c1ae4e6980b231306f2f6", func := "busbar/busbarlaw20.CrcCounts", spec := "crcCounts", apart := false }
def CrcCountsSaid : Prop := crcCountsRow.holds Try.pinned (OpenSpec.ofChange crcCountsSpec)

/-- ITS FALSE NEIGHBOUR: 'it returns false'. Refute it at one input. -/
def crcCountsWrong : ChangeSpec := { name := "crcCounts", fn := fun _ => fun
  | [d1, d2] => { results := [.lit (.bool false)], args := [d1, d2] }
  | _ => none }
def CrcCountsWrongFalsely : Prop := crcCountsRow.holds Try.pinned (OpenSpec.ofChange crcCountsWrong)

/-- 'busbarlaw20.CrcThrough': WHATEVER THE INPUT: true; the input reads as it did. -/
def crcThroughSpec : ChangeSpec := { name := "crcThrough", fn := fun _ => fun
  | [d1, d2] => { results := [.lit (.bool true)], args := [d1, d2] }
  | _ => none }
def crcThroughRow : OpenClaim := { program := "ytflghgilcooiiaa", sum := "ba62da09409360ca52d33342b726e36146b18cccf87c1ae4e6980b231306f2f6", func := "busbar/busbarlaw20.CrcThrough", spec := "crcThrough", apart := false }
def CrcThroughSaid : Prop := crcThroughRow.holds Try.pinned (OpenSpec.ofChange crcThroughSpec)

/-- ITS FALSE NEIGHBOUR: 'it returns false'. Refute it at one input. -/
def crcThroughWrong : ChangeSpec := { name := "crcThrough", fn := fun _ => fun
  | [d1, d2] => { results := [.lit (.bool false)], args := [d1, d2] }
  | _ => none }
def CrcThroughWrongFalsely : Prop := crcThroughRow.holds Try.pinned (OpenSpec.ofChange crcThroughWrong)

/-- 'busbarlaw20.CrcLinear': WHATEVER THE INPUT: true; the input reads as it did. -/
def crcLinearSpec : ChangeSpec := { name := "crcLinear", fn := fun _ => fun
  | [d1, d2] => { results := [.lit (.bool true)], args := [d1, d2] }
  | _ => none }
def crcLinearRow : OpenClaim := { program := "ytflghgilcooiiaa", sum := "ba62da09409360ca52d33342b726e36146b18cccf87c1ae4e6980b231306f2f6", func := "busbar/busbarlaw20.CrcLinear", spec := "crcLinear", apart := false }
def CrcLinearSaid : Prop := crcLinearRow.holds Try.pinned (OpenSpec.ofChange crcLinearSpec)

/-- ITS FALSE NEIGHBOUR: 'it returns false'. Refute it at one input. -/
def crcLinearWrong : ChangeSpec := { name := "crcLinear", fn := fun _ => fun
  | [d1, d2] => { results := [.lit (.bool false)], args := [d1, d2] }
  | _ => none }
def CrcLinearWrongFalsely : Prop := crcLinearRow.holds Try.pinned (OpenSpec.ofChange crcLinearWrong)

/-- 'busbarlaw20.CrcSix': WHATEVER THE INPUT: true; the input reads as it did. -/
def crcSixSpec : ChangeSpec := { name := "crcSix", fn := fun _ => fun
  | [d1, d2] => { results := [.lit (.bool true)], args := [d1, d2] }
  | _ => none }
def crcSixRow : OpenClaim := { program := "ytflghgilcooiiaa", sum := "ba62da09409360ca52d33342b726e36146b18cccf87c1ae4e6980b231306f2f6", func := "busbar/busbarlaw20.CrcSix", spec := "crcSix", apart := false }
def CrcSixSaid : Prop := crcSixRow.holds Try.pinned (OpenSpec.ofChange crcSixSpec)

/-- ITS FALSE NEIGHBOUR: 'it returns false'. Refute it at one input. -/
def crcSixWrong : ChangeSpec := { name := "crcSix", fn := fun _ => fun
  | [d1, d2] => { results := [.lit (.bool false)], args := [d1, d2] }
  | _ => none }
def CrcSixWrongFalsely : Prop := crcSixRow.holds Try.pinned (OpenSpec.ofChange crcSixWrong)

/-- 'busbarlaw20.CrcBurst': WHATEVER THE INPUT: true; the input reads as it did. -/
def crcBurstSpec : ChangeSpec := { name := "crcBurst", fn := fun _ => fun
  | [d1, d2, d3] => { results := [.lit (.bool true)], args := [d1, d2, d3] }
  | _ => none }
def crcBurstRow : OpenClaim := { program := "ytflghgilcooiiaa", sum := "ba62da09409360ca52d33342b726e36146b18cccf87c1ae4e6980b231306f2f6", func := "busbar/busbarlaw20.CrcBurst", spec := "crcBurst", apart := false }
def CrcBurstSaid : Prop := crcBurstRow.holds Try.pinned (OpenSpec.ofChange crcBurstSpec)

/-- ITS FALSE NEIGHBOUR: 'it returns false'. Refute it at one input. -/
def crcBurstWrong : ChangeSpec := { name := "crcBurst", fn := fun _ => fun
  | [d1, d2, d3] => { results := [.lit (.bool false)], args := [d1, d2, d3] }
  | _ => none }
def CrcBurstWrongFalsely : Prop := crcBurstRow.holds Try.pinned (OpenSpec.ofChange crcBurstWrong)

/-- 'busbarlaw20.CrcKnown': WHATEVER THE INPUT: true; the input reads as it did. -/
def crcKnownSpec : ChangeSpec := { name := "crcKnown", fn := fun _ => fun
  | [] => { results := [.lit (.bool true)], args := [] }
  | _ => none }
def crcKnownRow : OpenClaim := { program := "ytflghgilcooiiaa", sum := "ba62da09409360ca52d33342b726e36146b18cccf87c1ae4e6980b231306f2f6", func := "busbar/busbarlaw20.CrcKnown", spec := "crcKnown", apart := false }
def CrcKnownSaid : Prop := crcKnownRow.holds Try.pinned (OpenSpec.ofChange crcKnownSpec)

/-- ITS FALSE NEIGHBOUR: 'it returns false'. Refute it at one input. -/
def crcKnownWrong : ChangeSpec := { name := "crcKnown", fn := fun _ => fun
  | [] => { results := [.lit (.bool false)], args := [] }
  | _ => none }
def CrcKnownWrongFalsely : Prop := crcKnownRow.holds Try.pinned (OpenSpec.ofChange crcKnownWrong)

/- THE SECOND FORM. 'bulk': how many values and letters a reading holds, each counted each time it is reached (what is shared counts as often as it is met; a slice's spare places count too). A statement '..UptoSaid' is the law's where the arguments, and the package variables that the reading takes, are together of bulk at most 1048576: NARROWER than '..Said'. Prove '..Said' where nothing that the law and all that it calls make is longer than what came in: it says more and counts as full. Else prove '..UptoSaid'. A law counts once. -/
mutual
def uptoBulk {H : Type} : DataW H → Nat
  | .lit (.string bytes) => bytes.length + 1
  | .lit _ => 1
  | .nil => 1
  | .ptr d => uptoBulk d + 1
  | .slice elems spare => uptoBulkAll elems + uptoBulkAll spare + 1
  | .agg parts => uptoBulkAll parts + 1
  | .iface _ d => uptoBulk d + 1
  | .map entries => uptoBulkEntries entries + 1
  | .held _ => 1
def uptoBulkAll {H : Type} : List (DataW H) → Nat
  | [] => 0
  | d :: r => uptoBulk d + uptoBulkAll r
def uptoBulkEntries {H : Type} : List (Lit × DataW H) → Nat
  | [] => 0
  | x :: r => uptoBulkEntry x + uptoBulkEntries r
def uptoBulkEntry {H : Type} : Lit × DataW H → Nat
  | (.string bytes, d) => bytes.length + uptoBulk d + 1
  | (_, d) => uptoBulk d + 1
 end
def uptoSmall : (H : Type) → List (DataW H) → Bool := fun _ ds => decide (uptoBulkAll ds ≤ 1048576)
def OpenSpec.upto (s : _root_.Go.ChangeSpec) : _root_.Go.OpenSpec := { _root_.Go.OpenSpec.ofChange s with cond := some uptoSmall }

/-- 'busbarlaw24.FilterTakes', WHERE WHAT IT READS IS OF BULK AT MOST 1048576: true; the input reads as it did. -/
def filterTakesUptoRow : OpenClaim := { program := "ytflghgilcooiiaa", sum := "ba62da09409360ca52d33342b726e36146b18cccf87c1ae4e6980b231306f2f6", func := "busbar/busbarlaw24.FilterTakes", spec := "filterTakes", apart := false, narrowed := true }
def FilterTakesUptoSaid : Prop := filterTakesUptoRow.holds Try.pinned (OpenSpec.upto filterTakesSpec)

/-- 'busbarlaw20.CrcSums', WHERE WHAT IT READS IS OF BULK AT MOST 1048576: true; the input reads as it did. -/
def crcSumsUptoRow : OpenClaim := { program := "ytflghgilcooiiaa", sum := "ba62da09409360ca52d33342b726e36146b18cccf87c1ae4e6980b231306f2f6", func := "busbar/busbarlaw20.CrcSums", spec := "crcSums", apart := false, narrowed := true }
def CrcSumsUptoSaid : Prop := crcSumsUptoRow.holds Try.pinned (OpenSpec.upto crcSumsSpec)

/-- 'busbarlaw20.CrcCounts', WHERE WHAT IT READS IS OF BULK AT MOST 1048576: true; the input reads as it did. -/
def crcCountsUptoRow : OpenClaim := { program := "ytflghgilcooiiaa", sum := "ba62da09409360ca52d33342b726e36146b18cccf87c1ae4e6980b231306f2f6", func := "busbar/busbarlaw20.CrcCounts", spec := "crcCounts", apart := false, narrowed := true }
def CrcCountsUptoSaid : Prop := crcCountsUptoRow.holds Try.pinned (OpenSpec.upto crcCountsSpec)

/-- 'busbarlaw20.CrcThrough', WHERE WHAT IT READS IS OF BULK AT MOST 1048576: true; the input reads as it did. -/
def crcThroughUptoRow : OpenClaim := { program := "ytflghgilcooiiaa", sum := "ba62da09409360ca52d33342b726e36146b18cccf87c1ae4e6980b231306f2f6", func := "busbar/busbarlaw20.CrcThrough", spec := "crcThrough", apart := false, narrowed := true }
def CrcThroughUptoSaid : Prop := crcThroughUptoRow.holds Try.pinned (OpenSpec.upto crcThroughSpec)

/-- 'busbarlaw20.CrcLinear', WHERE WHAT IT READS IS OF BULK AT MOST 1048576: true; the input reads as it did. -/
def crcLinearUptoRow : OpenClaim := { program := "ytflghgilcooiiaa", sum := "ba62da09409360ca52d33342b726e36146b18cccf87c1ae4e6980b231306f2f6", func := "busbar/busbarlaw20.CrcLinear", spec := "crcLinear", apart := false, narrowed := true }
def CrcLinearUptoSaid : Prop := crcLinearUptoRow.holds Try.pinned (OpenSpec.upto crcLinearSpec)

/-- 'busbarlaw20.CrcSix', WHERE WHAT IT READS IS OF BULK AT MOST 1048576: true; the input reads as it did. -/
def crcSixUptoRow : OpenClaim := { program := "ytflghgilcooiiaa", sum := "ba62da09409360ca52d33342b726e36146b18cccf87c1ae4e6980b231306f2f6", func := "busbar/busbarlaw20.CrcSix", spec := "crcSix", apart := false, narrowed := true }
def CrcSixUptoSaid : Prop := crcSixUptoRow.holds Try.pinned (OpenSpec.upto crcSixSpec)

/-- 'busbarlaw20.CrcBurst', WHERE WHAT IT READS IS OF BULK AT MOST 1048576: true; the input reads as it did. -/
def crcBurstUptoRow : OpenClaim := { program := "ytflghgilcooiiaa", sum := "ba62da09409360ca52d33342b726e36146b18cccf87c1ae4e6980b231306f2f6", func := "busbar/busbarlaw20.CrcBurst", spec := "crcBurst", apart := false, narrowed := true }
def CrcBurstUptoSaid : Prop := crcBurstUptoRow.holds Try.pinned (OpenSpec.upto crcBurstSpec)

/-- 'busbarlaw20.CrcKnown', WHERE WHAT IT READS IS OF BULK AT MOST 1048576: true; the input reads as it did. -/
def crcKnownUptoRow : OpenClaim := { program := "ytflghgilcooiiaa", sum := "ba62da09409360ca52d33342b726e36146b18cccf87c1ae4e6980b231306f2f6", func := "busbar/busbarlaw20.CrcKnown", spec := "crcKnown", apart := false, narrowed := true }
def CrcKnownUptoSaid : Prop := crcKnownUptoRow.holds Try.pinned (OpenSpec.upto crcKnownSpec)

end Rows
end Go.Proofs.Ytflghgilcooiiaa
