/-
  The bytes of a string put behind a list of bytes of the call's own.
-/
import Derived.Test.YtajnmbhcaogfoaaGreatDoorRows
import Derived.Test.YtajnmbhcaogfoaaGreatDoorBaseD
import Derived.Lib.AppendStr

namespace Go.Proofs.YtajnmbhcaogfoaaGreatDoor
set_option linter.unusedVariables false
open Go.RowKit

def enByte (b : UInt8) : List Value := [.int .u8 (b.toNat : Int)]
theorem enByte_len (b : UInt8) : (enByte b).length = 1 := rfl
theorem flat_byte : IsFlat Tryz.prog 5 1 enByte (fun _ => True) := by
  refine ⟨by kernel_rfl, fun _ => rfl, ?_⟩
  intro H enc w base spare held fuel cs x hx
  obtain ⟨n, rfl, _, wf⟩ := DataW.trod_int Tryz.underlying5 hx
  have hb := u8_bd wf
  obtain ⟨m, rfl⟩ := Int.eq_ofNat_of_zero_le hb.1
  refine ⟨UInt8.ofNat m, trivial, ?_⟩
  have : (UInt8.ofNat m).toNat = m := by rw [UInt8.toNat_ofNat']; omega
  simp [enByte, this]

theorem bytes_ty : SlTy Tryz.prog 44 5 1 1 := SlTy.mk' (.int .u8 0) Tryz.underlying44 (by kernel_rfl) rfl (by decide) (by decide)

abbrev SlY (w : World) (a : Option Addr) (cap : Nat) (l : List UInt8) : Prop := SlOf w enByte 1 a cap l
theorem SlY.at {w : World} {a : Option Addr} {cap : Nat} {l : List UInt8} (h : SlY w a cap l) {k : Nat} (hk : k < l.length) : ∃ b o, a = some ⟨b, o, none⟩ ∧ b < w.heap.size ∧ w.cell? ⟨b, o + k, none⟩ = some (.int .u8 (l[k].toNat : Int)) :=
  SlOf.cell1 h (fun x => .int .u8 (x.toNat : Int)) (fun _ => rfl) hk

end Go.Proofs.YtajnmbhcaogfoaaGreatDoor

namespace Go.Proofs.YtajnmbhcaogfoaaGreatDoor
set_option linter.unusedVariables false
open Go.RowKit

set_option maxRecDepth 100000 in
theorem wpList_append_str {w0 wr : World} {ops : Array Oper} {rest : List Oper} {o : Oper} {a : Act} {Q : Exit → Act → World → Prop} {s x : Operand} {base : Nat} {v : Value} (xs ss : List UInt8)
    (hown : Owns wr base 5 1 enByte v xs) (hbel : Below base w0 wr) (hbase : base ≤ w0.heap.size) (hbound : xs.length + ss.length ≤ 140737488355328)
    (h : ∀ v' w1, Owns w1 base 5 1 enByte v' (xs ++ ss) → Below base w0 w1 → wpList Tryz.prog ops Q rest (a.put o.dst v') w1)
    (hgd : o.guard = none := by rfl) (ho : o.op = .call { callee := .builtin .append, args := #[s, x], argTypes := #[44, 9] } := by rfl)
    (hs : a.eval s = v := by rfl) (hx : a.eval x = .string ⟨ss.toArray⟩ := by rfl) : wpList Tryz.prog ops Q (o :: rest) a wr := by
  obtain ⟨i, hi, hz0, hz1, hz2⟩ := info_parts (show (Tryz.prog.info? 5).map (fun i => (i.zero, i.size, i.bytes)) = some (some (.int .u8 0), 1, 1) by kernel_rfl)
  have hsz := hbel.size
  have e1 : Lib.strCells ⟨ss.toArray⟩ = ss.flatMap enByte := by
    rw [flatMap_one enByte (fun c : UInt8 => .int .u8 (c.toNat : Int)) (fun _ => rfl)]
    rfl
  have e2 : (⟨ss.toArray⟩ : ByteArray).size = ss.length := rfl
  refine Lib.wpList_append_own_string wr hgd s x _ _ ho base 5 i Tryz.underlying44 Tryz.underlying9 hi hz0 hz1 hz2 v xs.length (xs.flatMap enByte) hs hown ⟨ss.toArray⟩ hx (by rw [e2]; unfold maxLen; omega) (by rw [e2]; exact hbound) (by omega) fun v' w' h1 h2 _ => ?_
  refine h v' w' ?_ (hbel.grown h2 (by omega) (fun k hk => (World.ownsRow.lt hown k hk).1))
  unfold Owns
  rw [List.length_append, List.flatMap_append, ← e1]
  exact h1
end Go.Proofs.YtajnmbhcaogfoaaGreatDoor
