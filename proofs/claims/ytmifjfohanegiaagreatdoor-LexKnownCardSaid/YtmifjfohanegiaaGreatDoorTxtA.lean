/-
  The reference's ten, places, decimal: contracts.
-/
import Derived.Test.YtmifjfohanegiaaGreatDoorNatT
import Derived.Test.YtmifjfohanegiaaGreatDoorParR
import Derived.Test.YtmifjfohanegiaaGreatDoorByteK

namespace Go.Proofs.YtmifjfohanegiaaGreatDoor
set_option linter.unusedVariables false
open Go.RowKit

theorem strA (A B : List UInt8) : (⟨A.toArray⟩ : ByteArray) ++ ⟨B.toArray⟩ = ⟨(A ++ B).toArray⟩ := by
  apply ByteArray.ext
  simp
theorem fresh_low {B B' : Nat} {v : Value} (h : FreshV B v) (hb : B' ≤ B) : FreshV B' v := fun a n c e => Nat.le_trans hb (h a n c e)
theorem digs1 {n : Nat} (h : n < 4294967296) : (digs n).length ≤ 1 := (digs_len n 1).2 (by simpa using h)
theorem pow62 {j : Nat} (h : j ≤ 62) : (digs (10 ^ j)).length ≤ 8 := by
  refine (digs_len _ 8).2 (Nat.lt_of_le_of_lt (Nat.pow_le_pow_right (by decide) h) ?_)
  decide +kernel
end Go.Proofs.YtmifjfohanegiaaGreatDoor
