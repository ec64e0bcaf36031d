/-
  Contract of rat's fit.
-/
import Derived.Test.YtmifjfohanegiaaDoorRatC
import Derived.Test.YtmifjfohanegiaaDoorShelf
import Derived.Shelf.Spec.BitsCarry
namespace Go.Proofs.YtmifjfohanegiaaDoor
set_option linter.unusedVariables false
open Go.RowKit

/-- a fraction and an error, as they are handed back -/
def errV (n : Int) : Value := .iface 40 (.int .i64 n)
def ratV (r : Option (Int × Int)) : Value :=
  match r with
  | some (n, d) => .tuple #[.agg #[.int .i64 n, .int .i64 d], .nilIface]
  | none => .tuple #[.agg #[.int .i64 0, .int .i64 0], errV 9]

theorem fitE_zero (neg : Bool) (D : Nat) : fitE neg 0 D = some (0, 1) := by unfold fitE; rw [if_pos rfl]
theorem neg_conv (k : Nat) (h : k ≤ 9223372036854775808) : wrap64 (IntKind.u64.wrap (-(k : Int))) = -(k : Int) := by
  unfold wrap64 IntKind.wrap; simp [IntKind.bits, IntKind.signed]; omega

end Go.Proofs.YtmifjfohanegiaaDoor
