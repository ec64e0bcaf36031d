/-
  Layer 7: a signal's order and role, in the program and in the reference: contracts.
-/
import Derived.Test.YtjgjckipfkkgiaaGreatDoorLexB
import Derived.Test.YtjgjckipfkkgiaaGreatDoorLexM
import Derived.Test.YtjgjckipfkkgiaaGreatDoorBaseC
import Derived.Test.YtjgjckipfkkgiaaGreatDoorTxtP
import Derived.Laws.IdiomStrings
import Derived.Test.YtjgjckipfkkgiaaGreatDoorParR
import Derived.Lib.SmallJoins
set_option maxHeartbeats 128000000
set_option linter.unusedVariables false
namespace Go.Proofs.YtjgjckipfkkgiaaGreatDoor
open Go.RowKit Go.Shelf
def atB (s:List UInt8) (i:Nat):UInt8:=(s[i]?).getD 0
theorem num3_at (s:List UInt8) (n:Nat):num3T s n=if stopN (atB s n)=true then 0 else n:=by
 unfold num3T atB;cases s[n]? with
 | none=>rfl
 | some c=>rfl
theorem isSg_iff (c:UInt8):isSg c=true↔c=43∨c=45:=by unfold isSg;simp
structure SigD where
 line:Int
 col:Int
 name:List UInt8
 role:Int
 branch:Nat
 start:Int
 size:Int
 moto:Bool
 signed:Bool
 sn:Int
 sd:Int
 on:Int
 od:Int
 mn:Int
 md:Int
 xn:Int
 xd:Int
 unit:List UInt8
end Go.Proofs.YtjgjckipfkkgiaaGreatDoor
