/-
  Contract of rat's Right.
-/
import Derived.Test.YtmifjfohanegiaaDoorRatB
import Derived.Test.YtmifjfohanegiaaDoorRatM
namespace Go.Proofs.YtmifjfohanegiaaDoor
set_option linter.unusedVariables false
open Go.RowKit

def rightB (n d : Int) : Bool := decide (1 ≤ d) && (Nat.gcd d.natAbs n.natAbs == 1)
def In64 (n : Int) : Prop := -9223372036854775808 ≤ n ∧ n ≤ 9223372036854775807
theorem rightB_iff (n d : Int) (hn : In64 n) (hd : In64 d) : rightB n d = true ↔ RightP n d := by
  unfold rightB RightP In64 at *
  rw [Bool.and_eq_true, decide_eq_true_eq, beq_iff_eq, Nat.gcd_comm]
  constructor
  · rintro ⟨h1, h2⟩; exact ⟨h1, hd.2, hn.1, hn.2, h2⟩
  · rintro ⟨h1, h2, h3, h4, h5⟩; exact ⟨h1, h5⟩

end Go.Proofs.YtmifjfohanegiaaDoor
