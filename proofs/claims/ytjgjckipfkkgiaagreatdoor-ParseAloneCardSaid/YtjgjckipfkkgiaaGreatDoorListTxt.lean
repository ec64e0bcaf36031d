/-
  Contracts of the lists of texts that the statements lend: marks, copies with marks, the look whether they were kept.
-/
import Derived.Test.YtjgjckipfkkgiaaGreatDoorRows
import Derived.Test.YtjgjckipfkkgiaaGreatDoorBaseD
import Derived.Test.YtjgjckipfkkgiaaGreatDoorBaseC
import Derived.BigQuiet
set_option maxHeartbeats 128000000
set_option linter.unusedVariables false
namespace Go.Proofs.YtjgjckipfkkgiaaGreatDoor
open Go.Proofs.Tryz
open Go.RowKit
def enTx (l:List UInt8):List Value:=[.string ⟨l.toArray⟩]
theorem enTx_len (l:List UInt8):(enTx l).length=1:=rfl
theorem txs_ty:SlTy prog 26 9 1 16:=SlTy.mk' (.string ⟨#[]⟩) underlying26 (by kernel_rfl) rfl (by decide) (by decide)
abbrev SlX (w:World) (a:Option Addr) (cap:Nat) (l:List (List UInt8)):Prop:=SlOf w enTx 1 a cap l
theorem SlX.at {w:World} {a:Option Addr} {cap:Nat} {l:List (List UInt8)} (h:SlX w a cap l) {k:Nat} (hk:k < l.length):∃ b o,a=some ⟨b,o,none⟩∧b < w.heap.size∧w.cell? ⟨b,o+k,none⟩=some (.string ⟨l[k].toArray⟩):=
 SlOf.cell1 h (fun x:List UInt8=>.string ⟨x.toArray⟩) (fun _=>rfl) hk
end Go.Proofs.YtjgjckipfkkgiaaGreatDoor
