/-
  Are two databases the same? Contracts of the reference's looks, at equal data. (Printed by gen_sam.py.)
-/
import Derived.Test.YtampdbkafkcfdaaGreatDoorNodB
import Derived.Test.YtampdbkafkcfdaaGreatDoorPrnM
import Derived.BigQuiet

namespace Go.Proofs.YtampdbkafkcfdaaGreatDoor
set_option linter.unusedVariables false
open Go.RowKit

theorem wpQuiet_loadR {P : Program} {ops : Array Oper} {C : World → Prop} {Q : Act → Prop} {rest : List Oper} {o : Oper} {a : Act} {k off : Nat} {cs : List Value} (hS : ∀ w, C w → w.rangeAt k off cs) (ty : TypeId) (x : Operand) {d : TypeDesc}
    (hu : P.underlying ty = some d) (hi : (P.info? ty).map (·.size) = some cs.length)
    (h : wpQuiet P ops C Q rest (a.put o.dst (.agg cs.toArray)))
    (hgd : o.guard = none := by rfl) (ho : o.op = .load ty x := by rfl) (hx : a.eval x = .pointer (some ⟨k, off, none⟩) := by rfl) (hd : d.isRow = true := by rfl) : wpQuiet P ops C Q (o :: rest) a := by
  unfold wpQuiet
  rw [if_pos (by simp [Region.wanted, hgd])]
  refine ⟨_, fun w hw => ?_, h⟩
  unfold Oper.quietAt execOp
  simp only [ho, hx, Instr.loadAt, Instr.sureAddr, Sem.run_bind, Sem.run_pure, Result.andThen_ok, run_loadVar_mid (P := P) w k off ty cs d (hS w hw) hu hd hi]
  exact ⟨rfl, rfl⟩
theorem Later.range {W : World} {k off : Nat} {cs : List Value} (h : W.rangeAt k off cs) (x : Later W) : x.w.rangeAt k off cs := fun j v hv => Later.cell (h j v hv) x

end Go.Proofs.YtampdbkafkcfdaaGreatDoor
