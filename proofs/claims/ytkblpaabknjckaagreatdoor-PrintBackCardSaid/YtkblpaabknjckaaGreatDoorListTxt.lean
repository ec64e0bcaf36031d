/-
  Contracts of the lists of texts that the statements lend: marks, copies with marks, the look whether they were kept.
-/
import Derived.Test.YtkblpaabknjckaaGreatDoorRows
import Derived.Test.YtkblpaabknjckaaGreatDoorBaseD
import Derived.Test.YtkblpaabknjckaaGreatDoorBaseC
import Derived.Test.YtkblpaabknjckaaGreatDoorTxtP
import Derived.BigQuiet
set_option maxHeartbeats 128000000
set_option linter.unusedVariables false
namespace Go.Proofs.YtkblpaabknjckaaGreatDoor
open Go.Proofs.Tryz
open Go.RowKit
def enTx (l:List UInt8):List Value:=[.string ⟨l.toArray⟩]
theorem enTx_len (l:List UInt8):(enTx l).length=1:=rfl
theorem txs_ty:SlTy prog 32 9 1 16:=SlTy.mk' (.string ⟨#[]⟩) underlying32 (by kernel_rfl) rfl (by decide) (by decide)
abbrev SlX (w:World) (a:Option Addr) (cap:Nat) (l:List (List UInt8)):Prop:=SlOf w enTx 1 a cap l
theorem SlX.at {w:World} {a:Option Addr} {cap:Nat} {l:List (List UInt8)} (h:SlX w a cap l) {k:Nat} (hk:k < l.length):∃ b o,a=some ⟨b,o,none⟩∧b < w.heap.size∧w.cell? ⟨b,o+k,none⟩=some (.string ⟨l[k].toArray⟩):=
 SlOf.cell1 h (fun x:List UInt8=>.string ⟨x.toArray⟩) (fun _=>rfl) hk
end Go.Proofs.YtkblpaabknjckaaGreatDoor
