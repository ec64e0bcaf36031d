/-
  Contract of rat's size.
-/
import Derived.Test.YtmifjfohanegiaaGreatDoorRatA
namespace Go.Proofs.YtmifjfohanegiaaGreatDoor
set_option linter.unusedVariables false
open Go.RowKit

set_option maxHeartbeats 1000000 in
theorem size_any (n : Int) (hn : -9223372036854775808 ≤ n ∧ n ≤ 9223372036854775807) (w : World) :
    Calls Tryz.prog 100 #[.int .i64 n] w fun e w' => e = .returned (.int .u64 (n.natAbs : Nat)) ∧ w' = w := by
  by_cases h : n < 0
  · obtain ⟨k, hk⟩ : ∃ k : Nat, n = -(k : Int) := ⟨n.natAbs, by omega⟩
    subst hk
    have e0 : (-(k : Int)).natAbs = k := by omega
    rw [e0]
    go_enter Tryz.func100, Tryz.ntmps100
    go_wp2
    go_ret
    refine ⟨?_, rfl⟩
    show Ending.returned (.int .u64 _) = Ending.returned (.int .u64 _)
    congr 2
    first | rfl | omega | (unfold IntKind.wrap; simp [IntKind.bits, IntKind.signed]; omega)
  · have e0 : (n.natAbs : Int) = n := by omega
    have E0 := Lib.hid e0
    clear e0
    go_enter Tryz.func100, Tryz.ntmps100
    go_wp2
    go_ret
    exact ⟨by rw [E0.out]; rfl, rfl⟩
end Go.Proofs.YtmifjfohanegiaaGreatDoor
