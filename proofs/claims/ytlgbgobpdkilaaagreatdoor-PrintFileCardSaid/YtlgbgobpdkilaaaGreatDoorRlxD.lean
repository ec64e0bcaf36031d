/-
  The reference of chapter 04: number, quoted, sign: contracts.
-/
import Derived.Test.YtlgbgobpdkilaaaGreatDoorPrnB
import Derived.Deep.Cut
import Derived.Deep.DeepCutAuto

namespace Go.Proofs.YtlgbgobpdkilaaaGreatDoor
set_option linter.unusedVariables false
open Go.RowKit

theorem control3_any (r : Nat) (w : World) :
    Calls Tryz.prog 101 #[.int .i32 (r : Nat)] w fun e w' => e = .returned (.bool (ctlU r)) ∧ w' = w := by
  have HI := Lib.hid (ctlU_iff r)
  generalize ctlU r = b at *
  by_cases h1 : (r : Int) < 32
  · have HB := Lib.hid (show b = true from HI.out.2 (.inl (by omega)))
    clear HI
    go_enter Tryz.func101, Tryz.ntmps101
    go_wp2_with fail
    go_ret
    exact ⟨by rw [HB.out] <;> rfl, rfl⟩
  · by_cases h2 : r = 127
    · have HB := Lib.hid (show b = true from HI.out.2 (.inr h2))
      have hb : ((r : Int) == 127) = true := by rw [h2]; rfl
      clear HI h2
      go_enter Tryz.func101, Tryz.ntmps101
      go_wp2_with fail
      go_ret
      exact ⟨by rw [HB.out] <;> rfl, rfl⟩
    · have HB := Lib.hid (show b = false by rw [Bool.eq_false_iff]; intro h; rcases HI.out.1 h with h | h <;> omega)
      have hb : ((r : Int) == 127) = false := by rw [beq_eq_false_iff_ne]; omega
      clear HI h2
      go_enter Tryz.func101, Tryz.ntmps101
      go_wp2_with fail
      go_ret
      exact ⟨by rw [HB.out] <;> rfl, rfl⟩
end Go.Proofs.YtlgbgobpdkilaaaGreatDoor

namespace Go.Proofs.YtlgbgobpdkilaaaGreatDoor
set_option linter.unusedVariables false
open Go.RowKit Go.Shelf

theorem u8_eqT {c : UInt8} {k : Int} (hk : 0 ≤ k ∧ k < 256) (h : c = UInt8.ofNat k.toNat) : ((c.toNat : Int) == k) = true := by
  have := u8_eqB c k.toNat (by omega)
  rw [Int.toNat_of_nonneg hk.1] at this
  rw [this, decide_eq_true_eq]; exact h
theorem u8_eqF {c : UInt8} {k : Int} (hk : 0 ≤ k ∧ k < 256) (h : c ≠ UInt8.ofNat k.toNat) : ((c.toNat : Int) == k) = false := by
  have := u8_eqB c k.toNat (by omega)
  rw [Int.toNat_of_nonneg hk.1] at this
  rw [this, decide_eq_false_iff_not]; exact h
theorem u8_neT {c : UInt8} {k : Int} (hk : 0 ≤ k ∧ k < 256) (h : c = UInt8.ofNat k.toNat) : ((c.toNat : Int) != k) = false := by
  rw [bne, u8_eqT hk h]; rfl
theorem u8_neF {c : UInt8} {k : Int} (hk : 0 ≤ k ∧ k < 256) (h : c ≠ UInt8.ofNat k.toNat) : ((c.toNat : Int) != k) = true := by
  rw [bne, u8_eqF hk h]; rfl
theorem atB_pos {s : List UInt8} {i : Nat} (h : atB s i ≠ 0) : i < s.length := by
  rcases Nat.lt_or_ge i s.length with h1 | h1
  · exact h1
  · exact absurd (atB_end (by omega)) h

end Go.Proofs.YtlgbgobpdkilaaaGreatDoor
