/-
  Contracts of the lists of texts that the statements lend: marks, copies with marks, the look whether they were kept.
-/
import Derived.Test.YtampdbkafkcfdaaGreatDoorRows
import Derived.Test.YtampdbkafkcfdaaGreatDoorBaseD
import Derived.Test.YtampdbkafkcfdaaGreatDoorBaseC
import Derived.Test.YtampdbkafkcfdaaGreatDoorAppB
import Derived.BigQuiet

namespace Go.Proofs.YtampdbkafkcfdaaGreatDoor
set_option linter.unusedVariables false
open Go.RowKit

def enTx (l : List UInt8) : List Value := [.string ⟨l.toArray⟩]
theorem enTx_len (l : List UInt8) : (enTx l).length = 1 := rfl
theorem txs_ty : SlTy Tryz.prog 26 9 1 16 := SlTy.mk' (.string ⟨#[]⟩) Tryz.underlying26 (by kernel_rfl) rfl (by decide) (by decide)
abbrev SlX (w : World) (a : Option Addr) (cap : Nat) (l : List (List UInt8)) : Prop := SlOf w enTx 1 a cap l
theorem SlX.at {w : World} {a : Option Addr} {cap : Nat} {l : List (List UInt8)} (h : SlX w a cap l) {k : Nat} (hk : k < l.length) : ∃ b o, a = some ⟨b, o, none⟩ ∧ b < w.heap.size ∧ w.cell? ⟨b, o + k, none⟩ = some (.string ⟨l[k].toArray⟩) :=
  SlOf.cell1 h (fun x : List UInt8 => .string ⟨x.toArray⟩) (fun _ => rfl) hk

def u8I (i : Int) : UInt8 := UInt8.ofNat (i % 256).toNat
theorem u8I_wrap (i : Int) : IntKind.u8.wrap i = (((u8I i).toNat : Nat) : Int) := by
  unfold IntKind.wrap u8I
  rw [UInt8.toNat_ofNat']
  simp [IntKind.bits, IntKind.signed]
  omega
/-- the mark of the place i in a list that is lent -/
def mkTx (i : Int) : List UInt8 := [35, 90, 0, u8I i, u8I (i / 256)]

def marksX (n : Nat) : List (List UInt8) := (List.range n).map fun i : Nat => mkTx i
theorem marksX_snoc (k : Nat) : marksX (k + 1) = marksX k ++ [mkTx k] := by simp [marksX, List.range_succ]
theorem marksX_len (k : Nat) : (marksX k).length = k := by simp [marksX]

end Go.Proofs.YtampdbkafkcfdaaGreatDoor
