/-
  lex.text: contract.
-/
import Derived.Test.YtajnmbhcaogfoaaGreatDoorLexM
import Derived.Test.YtajnmbhcaogfoaaGreatDoorLexB
import Derived.Test.YtajnmbhcaogfoaaGreatDoorChrE
import Derived.Test.YtajnmbhcaogfoaaGreatDoorIsErr
namespace Go.Proofs.YtajnmbhcaogfoaaGreatDoor
set_option linter.unusedVariables false
open Go.RowKit Go.Shelf

theorem is_nilA (n : Int) (w : World) :
    Calls Tryz.prog 43 #[.nilIface, .iface 52 (.int .i64 n)] w fun e w' => e = .returned (.bool false) ∧ w' = w := by
  have he : ∀ w : World, (binOp .eql 34 .nilIface (.iface 52 (.int .i64 n))).run Tryz.prog w = .ok (.bool false) w := fun w => by kernel_rfl
  go_enter Tryz.func43, Tryz.ntmps43
  go_wp2_with fail
  go_ret
  exact ⟨rfl, rfl⟩
theorem ext_to (L : List UInt8) (j : Nat) : (⟨L.toArray⟩ : ByteArray).extract 0 j = ⟨(L.take j).toArray⟩ := by
  have h : ∀ (a b : ByteArray), a.data.toList = b.data.toList → a = b := fun a b e => by cases a; cases b; simp at e; rw [e]
  apply h
  rw [Go.Lib.extract_data]
  show (L.drop 0).take (j - 0) = L.take j
  rw [List.drop_zero, Nat.sub_zero]

theorem Blk.four {w : World} {k : Nat} {a b c d : Value} (h : Blk w k #[a, b, c, d]) : (w.cell? ⟨k, 0, none⟩ = some a ∧ w.cell? ⟨k, 1, none⟩ = some b ∧ w.cell? ⟨k, 2, none⟩ = some c ∧ w.cell? ⟨k, 3, none⟩ = some d) ∧ w.frozen? ⟨k, 0, none⟩ = false ∧ w.frozen? ⟨k, 1, none⟩ = false ∧ w.frozen? ⟨k, 2, none⟩ = false ∧ w.frozen? ⟨k, 3, none⟩ = false :=
  ⟨⟨h.cell 0 _ rfl, h.cell 1 _ rfl, h.cell 2 _ rfl, h.cell 3 _ rfl⟩, h.free 0, h.free 1, h.free 2, h.free 3⟩
theorem below_set4 {B k : Nat} {w W : World} (h : Below B w W) (hk : B ≤ k) (a b c d : Value) : Below B w ((((W.setCell ⟨k, 0, none⟩ a).setCell ⟨k, 1, none⟩ b).setCell ⟨k, 2, none⟩ c).setCell ⟨k, 3, none⟩ d) :=
  (((h.setCell (p := ⟨k, 0, none⟩) hk _).setCell (p := ⟨k, 1, none⟩) hk _).setCell (p := ⟨k, 2, none⟩) hk _).setCell (p := ⟨k, 3, none⟩) hk _
def tokV (k : Int) (t : List UInt8) (p : Int × Int) : Value := .agg #[.int .i64 k, .string ⟨t.toArray⟩, .int .i64 p.1, .int .i64 p.2]
def tokE (n : Nat) : Value := .tuple #[tokV 0 [] (0, 0), .int .i64 0, .int .i64 (n : Nat)]
def tokG (k : Int) (t : List UInt8) (n : Nat) : Value := .tuple #[tokV k t (0, 0), .int .i64 (n : Nat), .int .i64 0]
def textF (s : List UInt8) : Option Nat → Value
  | none => tokE 6
  | some i => match unqL (s.take (i + 1)) with
    | .bad n => if n = 5 then tokE 5 else tokE 6
    | .good t => tokG 3 t (i + 1)
def textT (s : List UInt8) : Value := textF s (endQ false 1 (s.drop 1))

end Go.Proofs.YtajnmbhcaogfoaaGreatDoor
