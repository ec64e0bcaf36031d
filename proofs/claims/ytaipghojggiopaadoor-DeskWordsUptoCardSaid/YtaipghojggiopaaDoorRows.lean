/-
  NARROWER THAN 'FOR EVERY INPUT', by the rows' own cells (each row's printed sentence says how): RatNews: laid · RatHolds: laid · DeskWords: laid · RatSums: laid.
  DERIVED. THE GIVEN ROWS OF THIS SEAT. 4 by the template 'for every input the law returns true; each argument reads behind the call as it read before'; 0 by the template 'total and deterministic' (their statements: YtaipghojggiopaaDoorTotals.lean).
  GIVEN WITH THE SEED: the statements are not yours to turn. If you find one false, say at which input.
  Laid BY PROGRAM, IN A SANDBOX (cutbox-rows.mjs): the forced cells as the released guide's own fill.sh prints them over the translation 6f72c78b937d0742… (all of the seat's roots in one cut). By AI agents, Wed Nov 11 2026. No macro, syntax, notation, axiom, sorry.
-/
import Derived.Test.YtaipghojggiopaaDoorChecked
import GoSem.Claim
import GoSem.ClaimJoined
import GoSem.ClaimMapViews
import Derived.JoinedTies
import Derived.KernelRfl
namespace Go.Proofs.YtaipghojggiopaaDoor
/- THE CELL 'sum', in the pinned program and in every row, IS THE sha256 OF THE DUMP (.gsa) THAT YtaipghojggiopaaDoorProg.lean LOADS. Nothing in Lean hashes anything: it is a label: what it is worth is what the hold of that sum in a sandbox is worth. -/
noncomputable def Tryd.pinned : Pinned := { name := "ytaipghojggiopaadoor", sum := "6f72c78b937d0742c4b08c654563f18c2073f1cfa5bee2ca4ab6897640d0496d", checked := Tryd.checked }
namespace Rows
def none {H : Type} : Left H := { results := [], args := [] }

/- WHAT THE LISTED PACKAGE-LEVEL VARIABLES READ AS WHEN THE CALL BEGINS. Each datum BY PROGRAM (the guide's laid-datum.mjs) off the statement by which the dump's own 'gosem.cut.vars' lays the variable. In a bare row this is a premise. The card (YtaipghojggiopaaDoorCards.lean) ties it to the program's text. -/
def laid_errors_errorType {H : Type} : DataW H := .iface "internal/reflectlite.rtype" (.agg [.ptr (.lit (.string [101, 114, 114, 111, 114]))])

/-- 'busbarlaw02.RatNews': WHATEVER THE INPUT: true; the input reads as it did. -/
def ratNewsSpec : ChangeSpec := { name := "ratNews", fn := fun _ => fun
  | [d1, d2] => { results := [.lit (.bool true)], args := [d1, d2] }
  | _ => none }
def ratNewsRow : OpenClaim := { program := "ytaipghojggiopaadoor", sum := "6f72c78b937d0742c4b08c654563f18c2073f1cfa5bee2ca4ab6897640d0496d", func := "busbar/busbarlaw02.RatNews", spec := "ratNews", inPlace := ["internal/reflectlite.TypeOf", "internal/reflectlite.ValueOf", "(internal/reflectlite.Value).Type", "(internal/reflectlite.Value).IsNil", "(internal/reflectlite.Value).Elem", "(internal/reflectlite.Value).Set"], unfollowed := true, recurses := true, named := ["errors.errorType"], apart := false, laid := [("errors.errorType", laid_errors_errorType)] }
def RatNewsSaid : Prop := ratNewsRow.holds Tryd.pinned (OpenSpec.ofChange ratNewsSpec)

/-- ITS FALSE NEIGHBOUR: 'it returns false'. Refute it at one input. -/
def ratNewsWrong : ChangeSpec := { name := "ratNews", fn := fun _ => fun
  | [d1, d2] => { results := [.lit (.bool false)], args := [d1, d2] }
  | _ => none }
def RatNewsWrongFalsely : Prop := ratNewsRow.holds Tryd.pinned (OpenSpec.ofChange ratNewsWrong)

/-- 'busbarlaw02.RatHolds': WHATEVER THE INPUT: true; the input reads as it did. -/
def ratHoldsSpec : ChangeSpec := { name := "ratHolds", fn := fun _ => fun
  | [d1, d2] => { results := [.lit (.bool true)], args := [d1, d2] }
  | _ => none }
def ratHoldsRow : OpenClaim := { program := "ytaipghojggiopaadoor", sum := "6f72c78b937d0742c4b08c654563f18c2073f1cfa5bee2ca4ab6897640d0496d", func := "busbar/busbarlaw02.RatHolds", spec := "ratHolds", inPlace := ["internal/reflectlite.TypeOf", "internal/reflectlite.ValueOf", "(internal/reflectlite.Value).Type", "(internal/reflectlite.Value).IsNil", "(internal/reflectlite.Value).Elem", "(internal/reflectlite.Value).Set"], unfollowed := true, recurses := true, named := ["errors.errorType"], apart := false, laid := [("errors.errorType", laid_errors_errorType)] }
def RatHoldsSaid : Prop := ratHoldsRow.holds Tryd.pinned (OpenSpec.ofChange ratHoldsSpec)

/-- ITS FALSE NEIGHBOUR: 'it returns false'. Refute it at one input. -/
def ratHoldsWrong : ChangeSpec := { name := "ratHolds", fn := fun _ => fun
  | [d1, d2] => { results := [.lit (.bool false)], args := [d1, d2] }
  | _ => none }
def RatHoldsWrongFalsely : Prop := ratHoldsRow.holds Tryd.pinned (OpenSpec.ofChange ratHoldsWrong)

/-- 'busbarlaw28.DeskWords': WHATEVER THE INPUT: true; the input reads as it did. -/
def deskWordsSpec : ChangeSpec := { name := "deskWords", fn := fun _ => fun
  | [d1, d2] => { results := [.lit (.bool true)], args := [d1, d2] }
  | _ => none }
def deskWordsRow : OpenClaim := { program := "ytaipghojggiopaadoor", sum := "6f72c78b937d0742c4b08c654563f18c2073f1cfa5bee2ca4ab6897640d0496d", func := "busbar/busbarlaw28.DeskWords", spec := "deskWords", inPlace := ["internal/reflectlite.TypeOf", "internal/reflectlite.ValueOf", "(internal/reflectlite.Value).Type", "(internal/reflectlite.Value).IsNil", "(internal/reflectlite.Value).Elem", "(internal/reflectlite.Value).Set"], unfollowed := true, recurses := true, named := ["errors.errorType"], apart := false, laid := [("errors.errorType", laid_errors_errorType)] }
def DeskWordsSaid : Prop := deskWordsRow.holds Tryd.pinned (OpenSpec.ofChange deskWordsSpec)

/-- ITS FALSE NEIGHBOUR: 'it returns false'. Refute it at one input. -/
def deskWordsWrong : ChangeSpec := { name := "deskWords", fn := fun _ => fun
  | [d1, d2] => { results := [.lit (.bool false)], args := [d1, d2] }
  | _ => none }
def DeskWordsWrongFalsely : Prop := deskWordsRow.holds Tryd.pinned (OpenSpec.ofChange deskWordsWrong)

/-- 'busbarlaw02.RatSums': WHATEVER THE INPUT: true; the input reads as it did. -/
def ratSumsSpec : ChangeSpec := { name := "ratSums", fn := fun _ => fun
  | [d1, d2] => { results := [.lit (.bool true)], args := [d1, d2] }
  | _ => none }
def ratSumsRow : OpenClaim := { program := "ytaipghojggiopaadoor", sum := "6f72c78b937d0742c4b08c654563f18c2073f1cfa5bee2ca4ab6897640d0496d", func := "busbar/busbarlaw02.RatSums", spec := "ratSums", inPlace := ["math/bits.Add64", "math/bits.Sub64", "internal/reflectlite.TypeOf", "internal/reflectlite.ValueOf", "(internal/reflectlite.Value).Type", "(internal/reflectlite.Value).IsNil", "(internal/reflectlite.Value).Elem", "(internal/reflectlite.Value).Set"], unfollowed := true, recurses := true, named := ["math/bits.divideError", "math/bits.overflowError", "errors.errorType"], apart := false, laid := [("errors.errorType", laid_errors_errorType)] }
def RatSumsSaid : Prop := ratSumsRow.holds Tryd.pinned (OpenSpec.ofChange ratSumsSpec)

/-- ITS FALSE NEIGHBOUR: 'it returns false'. Refute it at one input. -/
def ratSumsWrong : ChangeSpec := { name := "ratSums", fn := fun _ => fun
  | [d1, d2] => { results := [.lit (.bool false)], args := [d1, d2] }
  | _ => none }
def RatSumsWrongFalsely : Prop := ratSumsRow.holds Tryd.pinned (OpenSpec.ofChange ratSumsWrong)

/- THE SECOND FORM. 'bulk': how many values and letters a reading holds, each counted each time it is reached (what is shared counts as often as it is met; a slice's spare places count too). A statement '..UptoSaid' is the law's where the arguments, and the package variables that the reading takes, are together of bulk at most 1048576: NARROWER than '..Said'. Prove '..Said' where nothing that the law and all that it calls make is longer than what came in: it says more and counts as full. Else prove '..UptoSaid'. A law counts once. -/
mutual
def uptoBulk {H : Type} : DataW H → Nat
  | .lit (.string bytes) => bytes.length + 1
  | .lit _ => 1
  | .nil => 1
  | .ptr d => uptoBulk d + 1
  | .slice elems spare => uptoBulkAll elems + uptoBulkAll spare + 1
  | .agg parts => uptoBulkAll parts + 1
  | .iface _ d => uptoBulk d + 1
  | .map entries => uptoBulkEntries entries + 1
  | .held _ => 1
def uptoBulkAll {H : Type} : List (DataW H) → Nat
  | [] => 0
  | d :: r => uptoBulk d + uptoBulkAll r
def uptoBulkEntries {H : Type} : List (Lit × DataW H) → Nat
  | [] => 0
  | x :: r => uptoBulkEntry x + uptoBulkEntries r
def uptoBulkEntry {H : Type} : Lit × DataW H → Nat
  | (.string bytes, d) => bytes.length + uptoBulk d + 1
  | (_, d) => uptoBulk d + 1
 end
def uptoSmall : (H : Type) → List (DataW H) → Bool := fun _ ds => decide (uptoBulkAll ds ≤ 1048576)
def OpenSpec.upto (s : _root_.Go.ChangeSpec) : _root_.Go.OpenSpec := { _root_.Go.OpenSpec.ofChange s with cond := some uptoSmall }

/-- 'busbarlaw02.RatNews', WHERE WHAT IT READS IS OF BULK AT MOST 1048576: true; the input reads as it did. -/
def ratNewsUptoRow : OpenClaim := { program := "ytaipghojggiopaadoor", sum := "6f72c78b937d0742c4b08c654563f18c2073f1cfa5bee2ca4ab6897640d0496d", func := "busbar/busbarlaw02.RatNews", spec := "ratNews", inPlace := ["internal/reflectlite.TypeOf", "internal/reflectlite.ValueOf", "(internal/reflectlite.Value).Type", "(internal/reflectlite.Value).IsNil", "(internal/reflectlite.Value).Elem", "(internal/reflectlite.Value).Set"], unfollowed := true, recurses := true, named := ["errors.errorType"], apart := false, laid := [("errors.errorType", laid_errors_errorType)], narrowed := true }
def RatNewsUptoSaid : Prop := ratNewsUptoRow.holds Tryd.pinned (OpenSpec.upto ratNewsSpec)

/-- 'busbarlaw02.RatHolds', WHERE WHAT IT READS IS OF BULK AT MOST 1048576: true; the input reads as it did. -/
def ratHoldsUptoRow : OpenClaim := { program := "ytaipghojggiopaadoor", sum := "6f72c78b937d0742c4b08c654563f18c2073f1cfa5bee2ca4ab6897640d0496d", func := "busbar/busbarlaw02.RatHolds", spec := "ratHolds", inPlace := ["internal/reflectlite.TypeOf", "internal/reflectlite.ValueOf", "(internal/reflectlite.Value).Type", "(internal/reflectlite.Value).IsNil", "(internal/reflectlite.Value).Elem", "(internal/reflectlite.Value).Set"], unfollowed := true, recurses := true, named := ["errors.errorType"], apart := false, laid := [("errors.errorType", laid_errors_errorType)], narrowed := true }
def RatHoldsUptoSaid : Prop := ratHoldsUptoRow.holds Tryd.pinned (OpenSpec.upto ratHoldsSpec)

/-- 'busbarlaw28.DeskWords', WHERE WHAT IT READS IS OF BULK AT MOST 1048576: true; the input reads as it did. -/
def deskWordsUptoRow : OpenClaim := { program := "ytaipghojggiopaadoor", sum := "6f72c78b937d0742c4b08c654563f18c2073f1cfa5bee2ca4ab6897640d0496d", func := "busbar/busbarlaw28.DeskWords", spec := "deskWords", inPlace := ["internal/reflectlite.TypeOf", "internal/reflectlite.ValueOf", "(internal/reflectlite.Value).Type", "(internal/reflectlite.Value).IsNil", "(internal/reflectlite.Value).Elem", "(internal/reflectlite.Value).Set"], unfollowed := true, recurses := true, named := ["errors.errorType"], apart := false, laid := [("errors.errorType", laid_errors_errorType)], narrowed := true }
def DeskWordsUptoSaid : Prop := deskWordsUptoRow.holds Tryd.pinned (OpenSpec.upto deskWordsSpec)

/-- 'busbarlaw02.RatSums', WHERE WHAT IT READS IS OF BULK AT MOST 1048576: true; the input reads as it did. -/
def ratSumsUptoRow : OpenClaim := { program := "ytaipghojggiopaadoor", sum := "6f72c78b937d0742c4b08c654563f18c2073f1cfa5bee2ca4ab6897640d0496d", func := "busbar/busbarlaw02.RatSums", spec := "ratSums", inPlace := ["math/bits.Add64", "math/bits.Sub64", "internal/reflectlite.TypeOf", "internal/reflectlite.ValueOf", "(internal/reflectlite.Value).Type", "(internal/reflectlite.Value).IsNil", "(internal/reflectlite.Value).Elem", "(internal/reflectlite.Value).Set"], unfollowed := true, recurses := true, named := ["math/bits.divideError", "math/bits.overflowError", "errors.errorType"], apart := false, laid := [("errors.errorType", laid_errors_errorType)], narrowed := true }
def RatSumsUptoSaid : Prop := ratSumsUptoRow.holds Tryd.pinned (OpenSpec.upto ratSumsSpec)

end Rows
end Go.Proofs.YtaipghojggiopaaDoor
