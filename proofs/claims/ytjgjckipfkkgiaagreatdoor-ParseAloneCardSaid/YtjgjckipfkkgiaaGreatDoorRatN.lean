/-
  The mathematics of math/bits.Div64. (No program here.)
-/
import Derived.Test.YtjgjckipfkkgiaaGreatDoorParR
import Derived.Lib.ItoaNum
import Derived.Laws.Bits64b
set_option maxHeartbeats 128000000
set_option linter.unusedVariables false
namespace Go.Proofs.YtjgjckipfkkgiaaGreatDoor
theorem wrapN (a:Nat) (ha:a < 18446744073709551616):IntKind.u64.wrap (a:Int)=(a:Int):=by rw[IntKind.wrap_u64];omega
end Go.Proofs.YtjgjckipfkkgiaaGreatDoor
