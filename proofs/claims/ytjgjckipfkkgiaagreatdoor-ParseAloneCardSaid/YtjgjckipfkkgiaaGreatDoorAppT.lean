/-
  'append(l, x, y)': two elements more; the elder list stays as it was.
-/
import Derived.Test.YtjgjckipfkkgiaaGreatDoorHeldL
import Derived.Test.YtjgjckipfkkgiaaGreatDoorPrsO
set_option maxHeartbeats 128000000
set_option linter.unusedVariables false
namespace Go.Proofs.YtjgjckipfkkgiaaGreatDoor
open Go.RowKit
theorem apt_fdDbN (b:Nat) {e:TypeId} (he:9≠e) (hem:48≠e) (het:64≠e) (hes:61≠e) (her:71≠e):Apt (fdDbN b) e:=fun w w' x cs k C fz ⟨u,v,z,h1,h2,h3,h4⟩ hk hz hb=>
 ⟨u,v,z,h1,h2.apt he hk hb,h3.apt hem (apt_fdMsgN b he hes) hk hz hb,h4.apt het (apt_fdTabN b her) hk hz hb⟩
theorem fdDb_shape {b:Nat} {w:World} {x:DbD} {C:Array Value} (h:fdDbN b w x C.toList):C.size=9∧C.all (·.oneCell')=true:=by
 obtain⟨u,v,z,e,h1,h2,h3⟩:=h;obtain rfl:=Array.toList_inj.1 e;obtain⟨a,c,rfl,-⟩:=h1.shape;obtain⟨a,c,rfl,-⟩:=h2.shape;obtain⟨a,c,rfl,-⟩:=h3.shape;exact⟨rfl,by unfold DbD.cells;simp[Value.oneCell']⟩
end Go.Proofs.YtjgjckipfkkgiaaGreatDoor
