/-
  Layer 7's reference: Signal: contract.
-/
import Derived.Test.YtampdbkafkcfdaaGreatDoorPrnM
import Derived.Test.YtampdbkafkcfdaaGreatDoorAppB
import Derived.Test.YtampdbkafkcfdaaGreatDoorRlxI

namespace Go.Proofs.YtampdbkafkcfdaaGreatDoor
set_option linter.unusedVariables false
open Go.RowKit Go.Shelf

def rsigV (d : SigD) (rs : List (List UInt8)) : Value := .tuple #[.string ⟨(if sigB d rs then sigT d rs else []).toArray⟩, .bool (sigB d rs)]

theorem joinTail_app (s : List UInt8) (l r : List (List UInt8)) : Lib.joinTail s (l ++ r) = Lib.joinTail s l ++ Lib.joinTail s r := by
  unfold Lib.joinTail
  rw [List.map_append, List.flatten_append]
theorem join_snoc (l : List (List UInt8)) (x s : List UInt8) (h : l ≠ []) : Lib.join (l ++ [x]) s = (Lib.join l s ++ s) ++ x := by
  cases l with
  | nil => exact absurd rfl h
  | cons y r =>
    rw [List.cons_append, Lib.join_cons, Lib.join_cons, joinTail_app]
    simp [Lib.joinTail]

/-- the first region's answer -/
def rs1B (d : SigD) : Bool := wordB d.name && (rolB d.role d.branch && (sizB d.start && sizB d.size))
theorem sigB_split (d : SigD) (rs : List (List UInt8)) : sigB d rs = (rs1B d && (fracB d.sn d.sd && (fracB d.on d.od && (fracB d.mn d.md && (fracB d.xn d.xd && ((mayN d.unit == 0) && (!rs.isEmpty && rs.all wordB))))))) := by
  unfold sigB rs1B allF
  generalize rolB d.role d.branch = a
  generalize wordB d.name = b
  generalize sizB d.start = c
  generalize sizB d.size = e
  generalize fracB d.sn d.sd = f
  generalize fracB d.on d.od = g
  generalize fracB d.mn d.md = h
  generalize fracB d.xn d.xd = i
  generalize (mayN d.unit == 0) = j
  cases a <;> cases b <;> cases c <;> cases e <;> cases f <;> cases g <;> cases h <;> cases i <;> cases j <;> simp

end Go.Proofs.YtampdbkafkcfdaaGreatDoor
