/-
  What the rows' list gives: errors.errorType's cell, the handle of the type 'error'.
-/
import Derived.Test.YtaipghojggiopaaDoorCards
import Derived.Test.YtaipghojggiopaaDoorTie
import Derived.Test.YtaipghojggiopaaDoorPlain
import Derived.LaidLaws
import Derived.LaidHandle
import Derived.Stop.Joined
import Derived.RowKit
import Derived.RowKitTokens
import Derived.ChangeSame
import Derived.ChangeVars
import Derived.JoinedOf
namespace Go.Proofs.YtaipghojggiopaaDoor
set_option linter.unusedVariables false
open Go.ChangeShapes Go.WideShapes Go.ChangeAt Go.RowKit

abbrev errLaid : List (String × DataW Unit) := [("errors.errorType", Rows.laid_errors_errorType)]
theorem err_global : Tryd.prog.globalNamed "errors.errorType" = some 0 := by kernel_rfl
theorem err_rt : (Tryd.prog.cutTypes.find? (·.1 == "internal/reflectlite.rtype")).map (·.2) = some 115 := by kernel_rfl
theorem err_row : ((List.range Tryd.prog.types.size).filter fun t => Tryd.prog.rowNamed t [101, 114, 114, 111, 114]) = [25] := by kernel_rfl
theorem err_handle : typeHandle Tryd.prog 25 = .pointer (some ⟨3, 25, none⟩) := by kernel_rfl

theorem laidT_of {W : World} (h : laidMetH Tryd.prog errLaid W) : LaidT W := by
  have h' : laidMet Tryd.prog [] W ∧ handlesMet Tryd.prog errLaid W := h
  obtain ⟨name, u, ty, e1, e2, e3, e4, e5⟩ := h'.2 _ (List.mem_singleton.2 rfl)
  have en : name = [101, 114, 114, 111, 114] := (Option.some.inj e1).symm
  subst en
  obtain rfl := Option.some.inj (err_rt.symm.trans e2)
  have hm : ty ∈ (List.range Tryd.prog.types.size).filter fun t => Tryd.prog.rowNamed t [101, 114, 114, 111, 114] := List.mem_filter.2 ⟨List.mem_range.2 e3, e4⟩
  rw [err_row] at hm
  obtain rfl := List.mem_singleton.1 hm
  rw [err_handle] at e5
  simpa [LaidT] using World.var?_cell err_global e5 0

/-- A world that meets the condition: the settled one, the variable's cell laid. -/
noncomputable def errWorld (os : Os) : World :=
  let w0 := World.holding Tryd.prog os ⟨#[], #[], []⟩
  { w0 with heap := w0.heap.modify 0 fun
      | .cells _ t frozen => .cells #[.iface 115 (.agg #[.pointer (some ⟨3, 25, none⟩)])] t frozen
      | o => o }
theorem errWorld_met (os : Os) (args : Array Value) : laidMetH Tryd.prog errLaid ((errWorld os).forCall (fun _ _ => 0) ⟨#[], args, []⟩).memory :=
  laidMetH_of_parts (laidMet_nil _ _) (by kernel_rfl)
end Go.Proofs.YtaipghojggiopaaDoor
