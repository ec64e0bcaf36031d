/-
  Slices of bytes at hand.
-/
import Derived.Test.YtmifjfohanegiaaGreatDoorRows
import Derived.Test.YtmifjfohanegiaaGreatDoorBaseD

namespace Go.Proofs.YtmifjfohanegiaaGreatDoor
set_option linter.unusedVariables false
open Go.RowKit

def enByte (b : UInt8) : List Value := [.int .u8 (b.toNat : Int)]
theorem enByte_len (b : UInt8) : (enByte b).length = 1 := rfl
theorem flat_byte : IsFlat Tryz.prog 5 1 enByte (fun _ => True) := by
  refine ⟨by kernel_rfl, fun _ => rfl, ?_⟩
  intro H enc w base spare held fuel cs x hx
  obtain ⟨n, rfl, _, wf⟩ := DataW.trod_int Tryz.underlying5 hx
  have hb := u8_bd wf
  obtain ⟨m, rfl⟩ := Int.eq_ofNat_of_zero_le hb.1
  refine ⟨UInt8.ofNat m, trivial, ?_⟩
  have : (UInt8.ofNat m).toNat = m := by rw [UInt8.toNat_ofNat']; omega
  simp [enByte, this]

theorem bytes_ty : SlTy Tryz.prog 108 5 1 1 := SlTy.mk' (.int .u8 0) Tryz.underlying108 (by kernel_rfl) rfl (by decide) (by decide)

abbrev SlY (w : World) (a : Option Addr) (cap : Nat) (l : List UInt8) : Prop := SlOf w enByte 1 a cap l
theorem SlY.at {w : World} {a : Option Addr} {cap : Nat} {l : List UInt8} (h : SlY w a cap l) {k : Nat} (hk : k < l.length) : ∃ b o, a = some ⟨b, o, none⟩ ∧ b < w.heap.size ∧ w.cell? ⟨b, o + k, none⟩ = some (.int .u8 (l[k].toNat : Int)) :=
  SlOf.cell1 h (fun x => .int .u8 (x.toNat : Int)) (fun _ => rfl) hk

end Go.Proofs.YtmifjfohanegiaaGreatDoor
