/-
  No cell of these rows narrows 'for every input' (looked for: loops, veiled, ifaces, maps, wideKeys, modest, calm, conditions, laid).
  DERIVED. THE GIVEN ROWS OF THIS SEAT. 4 by the template 'for every input the law returns true; each argument reads behind the call as it read before'; 0 by the template 'total and deterministic' (their statements: YtaipghojggiopaaTotals.lean).
  GIVEN WITH THE SEED: the statements are not yours to turn. If you find one false, say at which input.
  Laid BY PROGRAM, IN A SANDBOX (cutbox-rows.mjs): the forced cells as the released guide's own fill.sh prints them over the translation 2a1075b128e0a38e… (all of the seat's roots in one cut). By AI agents, Wed Nov 11 2026. No macro, syntax, notation, axiom, sorry.
-/
import Derived.Test.YtaipghojggiopaaChecked
import GoSem.Claim
import GoSem.ClaimJoined
import GoSem.ClaimMapViews
import Derived.JoinedTies
import Derived.KernelRfl
namespace Go.Proofs.Ytaipghojggiopaa
/- THE CELL 'sum', in the pinned program and in every row, IS THE sha256 OF THE DUMP (.gsa) THAT YtaipghojggiopaaProg.lean LOADS. Nothing in Lean hashes anything: it is a label: what it is worth is what the hold of that sum in a sandbox is worth. -/
noncomputable def Try.pinned : Pinned := { name := "ytaipghojggiopaa", sum := "2a1075b128e0a38ef83120c8907f376163b60dc40ea998e2ba397434e1891e58", checked := Try.checked }
namespace Rows
def none {H : Type} : Left H := { results := [], args := [] }

/-- 'busbarlaw28.DeskQuoted': WHATEVER THE INPUT: true; the input reads as it did. -/
def deskQuotedSpec : ChangeSpec := { name := "deskQuoted", fn := fun _ => fun
  | [d1, d2] => { results := [.lit (.bool true)], args := [d1, d2] }
  | _ => none }
def deskQuotedRow : OpenClaim := { program := "ytaipghojggiopaa", sum := "2a1075b128e0a38ef83120c8907f376163b60dc40ea998e2ba397434e1891e58", func := "busbar/busbarlaw28.DeskQuoted", spec := "deskQuoted", apart := false }
def DeskQuotedSaid : Prop := deskQuotedRow.holds Try.pinned (OpenSpec.ofChange deskQuotedSpec)

/-- ITS FALSE NEIGHBOUR: 'it returns false'. Refute it at one input. -/
def deskQuotedWrong : ChangeSpec := { name := "deskQuoted", fn := fun _ => fun
  | [d1, d2] => { results := [.lit (.bool false)], args := [d1, d2] }
  | _ => none }
def DeskQuotedWrongFalsely : Prop := deskQuotedRow.holds Try.pinned (OpenSpec.ofChange deskQuotedWrong)

/-- 'busbarlaw02.RatNear': WHATEVER THE INPUT: true; the input reads as it did. -/
def ratNearSpec : ChangeSpec := { name := "ratNear", fn := fun _ => fun
  | [d] => { results := [.lit (.bool true)], args := [d] }
  | _ => none }
def ratNearRow : OpenClaim := { program := "ytaipghojggiopaa", sum := "2a1075b128e0a38ef83120c8907f376163b60dc40ea998e2ba397434e1891e58", func := "busbar/busbarlaw02.RatNear", spec := "ratNear", inPlace := ["math/bits.Add64", "math/bits.Sub64"], named := ["math/bits.divideError", "math/bits.overflowError"], apart := false }
def RatNearSaid : Prop := ratNearRow.holds Try.pinned (OpenSpec.ofChange ratNearSpec)

/-- ITS FALSE NEIGHBOUR: 'it returns false'. Refute it at one input. -/
def ratNearWrong : ChangeSpec := { name := "ratNear", fn := fun _ => fun
  | [d] => { results := [.lit (.bool false)], args := [d] }
  | _ => none }
def RatNearWrongFalsely : Prop := ratNearRow.holds Try.pinned (OpenSpec.ofChange ratNearWrong)

/-- 'busbarlaw02.RatBack': WHATEVER THE INPUT: true; the input reads as it did. -/
def ratBackSpec : ChangeSpec := { name := "ratBack", fn := fun _ => fun
  | [d1, d2] => { results := [.lit (.bool true)], args := [d1, d2] }
  | _ => none }
def ratBackRow : OpenClaim := { program := "ytaipghojggiopaa", sum := "2a1075b128e0a38ef83120c8907f376163b60dc40ea998e2ba397434e1891e58", func := "busbar/busbarlaw02.RatBack", spec := "ratBack", inPlace := ["math/bits.Add64", "math/bits.Sub64", "internal/reflectlite.TypeOf"], unfollowed := true, recurses := true, named := ["math/bits.divideError", "math/bits.overflowError"], apart := false }
def RatBackSaid : Prop := ratBackRow.holds Try.pinned (OpenSpec.ofChange ratBackSpec)

/-- ITS FALSE NEIGHBOUR: 'it returns false'. Refute it at one input. -/
def ratBackWrong : ChangeSpec := { name := "ratBack", fn := fun _ => fun
  | [d1, d2] => { results := [.lit (.bool false)], args := [d1, d2] }
  | _ => none }
def RatBackWrongFalsely : Prop := ratBackRow.holds Try.pinned (OpenSpec.ofChange ratBackWrong)

/-- 'busbarlaw02.RatOrders': WHATEVER THE INPUT: true; the input reads as it did. -/
def ratOrdersSpec : ChangeSpec := { name := "ratOrders", fn := fun _ => fun
  | [d1, d2, d3] => { results := [.lit (.bool true)], args := [d1, d2, d3] }
  | _ => none }
def ratOrdersRow : OpenClaim := { program := "ytaipghojggiopaa", sum := "2a1075b128e0a38ef83120c8907f376163b60dc40ea998e2ba397434e1891e58", func := "busbar/busbarlaw02.RatOrders", spec := "ratOrders", inPlace := ["math/bits.Add64", "math/bits.Sub64", "internal/reflectlite.TypeOf"], unfollowed := true, recurses := true, named := ["math/bits.divideError", "math/bits.overflowError"], apart := false }
def RatOrdersSaid : Prop := ratOrdersRow.holds Try.pinned (OpenSpec.ofChange ratOrdersSpec)

/-- ITS FALSE NEIGHBOUR: 'it returns false'. Refute it at one input. -/
def ratOrdersWrong : ChangeSpec := { name := "ratOrders", fn := fun _ => fun
  | [d1, d2, d3] => { results := [.lit (.bool false)], args := [d1, d2, d3] }
  | _ => none }
def RatOrdersWrongFalsely : Prop := ratOrdersRow.holds Try.pinned (OpenSpec.ofChange ratOrdersWrong)

/- THE SECOND FORM. 'bulk': how many values and letters a reading holds, each counted each time it is reached (what is shared counts as often as it is met; a slice's spare places count too). A statement '..UptoSaid' is the law's where the arguments, and the package variables that the reading takes, are together of bulk at most 1048576: NARROWER than '..Said'. Prove '..Said' where nothing that the law and all that it calls make is longer than what came in: it says more and counts as full. Else prove '..UptoSaid'. A law counts once. -/
mutual
def uptoBulk {H : Type} : DataW H → Nat
  | .lit (.string bytes) => bytes.length + 1
  | .lit _ => 1
  | .nil => 1
  | .ptr d => uptoBulk d + 1
  | .slice elems spare => uptoBulkAll elems + uptoBulkAll spare + 1
  | .agg parts => uptoBulkAll parts + 1
  | .iface _ d => uptoBulk d + 1
  | .map entries => uptoBulkEntries entries + 1
  | .held _ => 1
def uptoBulkAll {H : Type} : List (DataW H) → Nat
  | [] => 0
  | d :: r => uptoBulk d + uptoBulkAll r
def uptoBulkEntries {H : Type} : List (Lit × DataW H) → Nat
  | [] => 0
  | x :: r => uptoBulkEntry x + uptoBulkEntries r
def uptoBulkEntry {H : Type} : Lit × DataW H → Nat
  | (.string bytes, d) => bytes.length + uptoBulk d + 1
  | (_, d) => uptoBulk d + 1
 end
def uptoSmall : (H : Type) → List (DataW H) → Bool := fun _ ds => decide (uptoBulkAll ds ≤ 1048576)
def OpenSpec.upto (s : _root_.Go.ChangeSpec) : _root_.Go.OpenSpec := { _root_.Go.OpenSpec.ofChange s with cond := some uptoSmall }

/-- 'busbarlaw28.DeskQuoted', WHERE WHAT IT READS IS OF BULK AT MOST 1048576: true; the input reads as it did. -/
def deskQuotedUptoRow : OpenClaim := { program := "ytaipghojggiopaa", sum := "2a1075b128e0a38ef83120c8907f376163b60dc40ea998e2ba397434e1891e58", func := "busbar/busbarlaw28.DeskQuoted", spec := "deskQuoted", apart := false, narrowed := true }
def DeskQuotedUptoSaid : Prop := deskQuotedUptoRow.holds Try.pinned (OpenSpec.upto deskQuotedSpec)

/-- 'busbarlaw02.RatNear', WHERE WHAT IT READS IS OF BULK AT MOST 1048576: true; the input reads as it did. -/
def ratNearUptoRow : OpenClaim := { program := "ytaipghojggiopaa", sum := "2a1075b128e0a38ef83120c8907f376163b60dc40ea998e2ba397434e1891e58", func := "busbar/busbarlaw02.RatNear", spec := "ratNear", inPlace := ["math/bits.Add64", "math/bits.Sub64"], named := ["math/bits.divideError", "math/bits.overflowError"], apart := false, narrowed := true }
def RatNearUptoSaid : Prop := ratNearUptoRow.holds Try.pinned (OpenSpec.upto ratNearSpec)

/-- 'busbarlaw02.RatBack', WHERE WHAT IT READS IS OF BULK AT MOST 1048576: true; the input reads as it did. -/
def ratBackUptoRow : OpenClaim := { program := "ytaipghojggiopaa", sum := "2a1075b128e0a38ef83120c8907f376163b60dc40ea998e2ba397434e1891e58", func := "busbar/busbarlaw02.RatBack", spec := "ratBack", inPlace := ["math/bits.Add64", "math/bits.Sub64", "internal/reflectlite.TypeOf"], unfollowed := true, recurses := true, named := ["math/bits.divideError", "math/bits.overflowError"], apart := false, narrowed := true }
def RatBackUptoSaid : Prop := ratBackUptoRow.holds Try.pinned (OpenSpec.upto ratBackSpec)

/-- 'busbarlaw02.RatOrders', WHERE WHAT IT READS IS OF BULK AT MOST 1048576: true; the input reads as it did. -/
def ratOrdersUptoRow : OpenClaim := { program := "ytaipghojggiopaa", sum := "2a1075b128e0a38ef83120c8907f376163b60dc40ea998e2ba397434e1891e58", func := "busbar/busbarlaw02.RatOrders", spec := "ratOrders", inPlace := ["math/bits.Add64", "math/bits.Sub64", "internal/reflectlite.TypeOf"], unfollowed := true, recurses := true, named := ["math/bits.divideError", "math/bits.overflowError"], apart := false, narrowed := true }
def RatOrdersUptoSaid : Prop := ratOrdersUptoRow.holds Try.pinned (OpenSpec.upto ratOrdersSpec)

end Rows
end Go.Proofs.Ytaipghojggiopaa
