/-
  The reference of chapter 04: number, quoted, sign: contracts.
-/
import Derived.Test.YtampdbkafkcfdaaGreatDoorPrnB
import Derived.Deep.Cut
import Derived.Deep.DeepCutAuto

namespace Go.Proofs.YtampdbkafkcfdaaGreatDoor
set_option linter.unusedVariables false
open Go.RowKit

end Go.Proofs.YtampdbkafkcfdaaGreatDoor

namespace Go.Proofs.YtampdbkafkcfdaaGreatDoor
set_option linter.unusedVariables false
open Go.RowKit Go.Shelf

theorem u8_eqT {c : UInt8} {k : Int} (hk : 0 ≤ k ∧ k < 256) (h : c = UInt8.ofNat k.toNat) : ((c.toNat : Int) == k) = true := by
  have := u8_eqB c k.toNat (by omega)
  rw [Int.toNat_of_nonneg hk.1] at this
  rw [this, decide_eq_true_eq]; exact h
theorem u8_eqF {c : UInt8} {k : Int} (hk : 0 ≤ k ∧ k < 256) (h : c ≠ UInt8.ofNat k.toNat) : ((c.toNat : Int) == k) = false := by
  have := u8_eqB c k.toNat (by omega)
  rw [Int.toNat_of_nonneg hk.1] at this
  rw [this, decide_eq_false_iff_not]; exact h
theorem u8_neT {c : UInt8} {k : Int} (hk : 0 ≤ k ∧ k < 256) (h : c = UInt8.ofNat k.toNat) : ((c.toNat : Int) != k) = false := by
  rw [bne, u8_eqT hk h]; rfl
theorem u8_neF {c : UInt8} {k : Int} (hk : 0 ≤ k ∧ k < 256) (h : c ≠ UInt8.ofNat k.toNat) : ((c.toNat : Int) != k) = true := by
  rw [bne, u8_eqF hk h]; rfl
theorem atB_pos {s : List UInt8} {i : Nat} (h : atB s i ≠ 0) : i < s.length := by
  rcases Nat.lt_or_ge i s.length with h1 | h1
  · exact h1
  · exact absurd (atB_end (by omega)) h

end Go.Proofs.YtampdbkafkcfdaaGreatDoor
