/-
  lex: letter, digit, signed, digits: contracts.
-/
import Derived.Test.YtajnmbhcaogfoaaGreatDoorLexM
import Derived.Test.YtajnmbhcaogfoaaGreatDoorParR
import Derived.Test.YtajnmbhcaogfoaaGreatDoorChrA

namespace Go.Proofs.YtajnmbhcaogfoaaGreatDoor
set_option linter.unusedVariables false
open Go.RowKit

def ltU (r : Nat) : Bool := (decide (97 ≤ r) && decide (r ≤ 122)) || (decide (65 ≤ r) && decide (r ≤ 90)) || r == 95
def dgU (r : Nat) : Bool := decide (48 ≤ r) && decide (r ≤ 57)
theorem isDg_U (c : UInt8) : isDg c = dgU c.toNat := rfl
theorem ltU_iff (r : Nat) : ltU r = true ↔ (97 ≤ r ∧ r ≤ 122) ∨ (65 ≤ r ∧ r ≤ 90) ∨ r = 95 := by unfold ltU; simp [or_assoc]
theorem dgU_iff (r : Nat) : dgU r = true ↔ 48 ≤ r ∧ r ≤ 57 := by unfold dgU; simp
theorem ltU_low {r : Nat} (h : ltU r = true) : r < 128 := by rcases (ltU_iff r).1 h with h | h | h <;> omega
theorem dgU_low {r : Nat} (h : dgU r = true) : r < 128 := by have := (dgU_iff r).1 h; omega

/-- a sign ahead -/
def sgnN : List UInt8 → Nat
  | [] => 0
  | c :: _ => if isSg c = true then 1 else 0
end Go.Proofs.YtajnmbhcaogfoaaGreatDoor
