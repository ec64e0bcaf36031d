/-
  chars.Quote: contract.
-/
import Derived.Test.YtjgjckipfkkgiaaGreatDoorBaseD
import Derived.Test.YtjgjckipfkkgiaaGreatDoorLexB
import Derived.Tactics
import Derived.Tactics2
import Derived.Defers
import Derived.Laws.Pointers
import Derived.Laws.LoneSync
import Derived.RegionTactic
import Derived.RegionCalls
import Derived.ChangeAlike
import Derived.Test.YtjgjckipfkkgiaaGreatDoorBaseC
import Derived.Test.YtjgjckipfkkgiaaGreatDoorRows
import Derived.Deep.WholeRow
import Derived.Lib.SlBytesConst
import Derived.Test.YtjgjckipfkkgiaaGreatDoorShelfV
import Derived.Test.YtjgjckipfkkgiaaGreatDoorCalm
import Derived.Laws.CopyOwn
import Derived.Deep.Cut
import Derived.Deep.DeepCutAuto
import Derived.BigQuiet
set_option maxHeartbeats 128000000
set_option linter.unusedVariables false
namespace Go.Proofs.YtjgjckipfkkgiaaGreatDoor
open Go.RowKit Go.Shelf
def escB (c:UInt8):List UInt8:=if c=92∨c=34 then [92,c] else [c]
def escQ (l:List UInt8):List UInt8:=l.flatMap escB
open Go.RowKit
def quoL (s:List UInt8):List UInt8:=34::(escQ s++[34])
end Go.Proofs.YtjgjckipfkkgiaaGreatDoor
