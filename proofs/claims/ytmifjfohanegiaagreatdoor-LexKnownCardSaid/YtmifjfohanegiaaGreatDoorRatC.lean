/-
  Contract of rat's Right.
-/
import Derived.Test.YtmifjfohanegiaaGreatDoorRatB
import Derived.Test.YtmifjfohanegiaaGreatDoorRatM
namespace Go.Proofs.YtmifjfohanegiaaGreatDoor
set_option linter.unusedVariables false
open Go.RowKit

def rightB (n d : Int) : Bool := decide (1 ≤ d) && (Nat.gcd d.natAbs n.natAbs == 1)
def In64 (n : Int) : Prop := -9223372036854775808 ≤ n ∧ n ≤ 9223372036854775807
theorem rightB_iff (n d : Int) (hn : In64 n) (hd : In64 d) : rightB n d = true ↔ RightP n d := by
  unfold rightB RightP In64 at *
  rw [Bool.and_eq_true, decide_eq_true_eq, beq_iff_eq, Nat.gcd_comm]
  constructor
  · rintro ⟨h1, h2⟩; exact ⟨h1, hd.2, hn.1, hn.2, h2⟩
  · rintro ⟨h1, h2, h3, h4, h5⟩; exact ⟨h1, h5⟩

set_option maxHeartbeats 1000000 in
theorem right_any (n d : Int) (hn : In64 n) (hd : In64 d) (w : World) :
    Calls Tryz.prog 98 #[.agg #[.int .i64 n, .int .i64 d]] w fun e w' => e = .returned (.bool (rightB n d)) ∧ Below w.heap.size w w' := by
  unfold In64 at hn hd
  by_cases h1 : 1 ≤ d
  · obtain ⟨k, rfl⟩ := Int.eq_ofNat_of_zero_le (show 0 ≤ d by omega)
    have cs := fun w' => size_any n hn w'
    have cg := fun w' => gcd_drew n.natAbs k (by omega) (by omega) w'
    have HR : Hid (rightB n k = decide (((Nat.gcd k n.natAbs : Nat) : Int) = 1)) := Lib.hid (by
      unfold rightB
      rw [decide_eq_true h1, Bool.true_and, Int.natAbs_natCast, Bool.eq_iff_iff, beq_iff_eq, decide_eq_true_eq]
      omega)
    rw [HR.out]
    generalize n.natAbs = a at *
    generalize Nat.gcd k a = g at *
    go_enter Tryz.func98, Tryz.ntmps98
    go_wp2_with fail
    go_quiet (first | (go_at_call 100; exact Calls.quiet_of_same (cs _)) | (go_at_call 130; exact Calls.quiet_of (cg _)))
    go_wp2_with fail
    go_ret
    exact ⟨rfl, below_drewN ((Below.refl _ _).alloc (Nat.le_refl _) _) _⟩
  · have hdd : decide (1 ≤ d) = false := decide_eq_false h1
    have HR : Hid (rightB n d = false) := Lib.hid (by unfold rightB; rw [hdd, Bool.false_and])
    rw [HR.out]
    go_enter Tryz.func98, Tryz.ntmps98
    go_wp2_with fail
    go_quiet (fail)
    go_wp2_with fail
    go_ret
    exact ⟨rfl, below_drewN ((Below.refl _ _).alloc (Nat.le_refl _) _) _⟩
end Go.Proofs.YtmifjfohanegiaaGreatDoor
