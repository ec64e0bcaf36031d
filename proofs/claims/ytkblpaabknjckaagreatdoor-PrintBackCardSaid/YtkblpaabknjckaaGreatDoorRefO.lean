/-
  The reference's Of, opposite: contracts.
-/
import Derived.Test.YtkblpaabknjckaaGreatDoorRows
import Derived.Test.YtkblpaabknjckaaGreatDoorBaseD
import Derived.Test.YtkblpaabknjckaaGreatDoorRatE
import Derived.BigQuiet
import Derived.Laws.IdiomStrings
import Derived.WalkLawsBesides
import Derived.Deep.CutBlock
import Derived.Deep.DeepCutAuto
import Derived.Test.YtkblpaabknjckaaGreatDoorCalm
import Derived.StillTailTactics
import Derived.WalkSmall
import Derived.Laws.BitsAllLaws
import Derived.Deep.LoopGhost
import Derived.Test.YtkblpaabknjckaaGreatDoorRatD
import Derived.Test.YtkblpaabknjckaaGreatDoorBaseC
import Derived.Deep.RegionHeld3
set_option maxHeartbeats 128000000
set_option linter.unusedVariables false
namespace Go.Proofs.YtkblpaabknjckaaGreatDoor
open Go.RowKit
theorem frac_zero (neg:Bool) (D:Nat):frac neg 0 D=some (0,1):=by
 unfold frac;rw[Nat.zero_div];exact fitE_zero _ _
theorem Blk.set {w:World} {k:Nat} {cs:Array Value} (h:Blk w k cs) (j:Nat) (v:Value):Blk (w.setCell ⟨k,j,none⟩ v) k (cs.setIfInBounds j v):=by
 obtain⟨T,h⟩:=h;refine⟨T,?_⟩;simp[World.setCell,Array.getElem?_modify,h]
end Go.Proofs.YtkblpaabknjckaaGreatDoor
