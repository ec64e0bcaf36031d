/-
  Contract of busbarlaw02's works.
-/
import Derived.Test.YtajebceanonalaaGreatDoorRatQ
namespace Go.Proofs.YtajebceanonalaaGreatDoor
set_option linter.unusedVariables false
open Go.RowKit

theorem works_val : sumV 1 2 1 3 false = .tuple #[.agg #[.int .i64 5, .int .i64 6], .nilIface] := by kernel_rfl

set_option maxHeartbeats 1000000 in
theorem works_any (w : World) : Calls Tryz.prog 10 #[] w fun e w' => e = .returned (.bool true) ∧ Below w.heap.size w w' := by
  have ca := add_any 1 2 1 3 ⟨by decide, by decide⟩ ⟨by decide, by decide⟩ ⟨by decide, by decide⟩ ⟨by decide, by decide⟩
  rw [works_val] at ca
  go_enter Tryz.func10, Tryz.ntmps10
  go_wp2_with fail
  with_reducible refine (ca _).mono ?_
  rintro e w1 ⟨rfl, hb1⟩
  go_wp2_with fail
  go_ret
  exact ⟨rfl, hb1.alloc hb1.size _⟩
end Go.Proofs.YtajebceanonalaaGreatDoor
