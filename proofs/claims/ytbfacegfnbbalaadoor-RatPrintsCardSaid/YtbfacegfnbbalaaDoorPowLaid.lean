/-
  What the row's list gives: the table of powers of ten, errors.errorType.
-/
import Derived.Test.YtbfacegfnbbalaaDoorCards
import Derived.Test.YtbfacegfnbbalaaDoorTie
import Derived.Test.YtbfacegfnbbalaaDoorPlain
import Derived.Test.YtbfacegfnbbalaaDoorTxtP
import Derived.Stop.LaidErr
import Derived.LaidLaws
import Derived.LaidHandle
import Derived.LaidMore
import Derived.Stop.Joined
import Derived.RowKit
import Derived.RowKitTokens
import Derived.ChangeSame
import Derived.ChangeVars
import Derived.JoinedOf
import Derived.Lib.LaidTab
namespace Go.Proofs.YtbfacegfnbbalaaDoor
set_option linter.unusedVariables false
open Go.ChangeShapes Go.WideShapes Go.ChangeAt Go.RowKit

theorem err_global : Tryd.prog.globalNamed "errors.errorType" = some 0 := by kernel_rfl
theorem err_rt : (Tryd.prog.cutTypes.find? (·.1 == "internal/reflectlite.rtype")).map (·.2) = some 137 := by kernel_rfl
theorem err_row : ((List.range Tryd.prog.types.size).filter fun t => Tryd.prog.rowNamed t [101, 114, 114, 111, 114]) = [24] := by kernel_rfl
theorem err_handle : typeHandle Tryd.prog 24 = .pointer (some ⟨9, 24, none⟩) := by kernel_rfl
theorem laidT_ofH {W : World} (h : handlesMet Tryd.prog [("errors.errorType", Rows.laid_errors_errorType)] W) : LaidT W := by
  obtain ⟨name, u, ty, e1, e2, e3, e4, e5⟩ := h _ (List.mem_singleton.2 rfl)
  have en : name = [101, 114, 114, 111, 114] := (Option.some.inj e1).symm
  subst en
  obtain rfl := Option.some.inj (err_rt.symm.trans e2)
  have hm : ty ∈ (List.range Tryd.prog.types.size).filter fun t => Tryd.prog.rowNamed t [101, 114, 114, 111, 114] := List.mem_filter.2 ⟨List.mem_range.2 e3, e4⟩
  rw [err_row] at hm
  obtain rfl := List.mem_singleton.1 hm
  rw [err_handle] at e5
  simpa [LaidT] using World.var?_cell err_global e5 0

abbrev powList : List (String × DataW Unit) := [("math/bits.deBruijn32tab", Rows.laid_math_bits_deBruijn32tab), ("math/bits.deBruijn64tab", Rows.laid_math_bits_deBruijn64tab), ("internal/strconv.uint64pow10", Rows.laid_internal_strconv_uint64pow10), ("errors.errorType", Rows.laid_errors_errorType)]
theorem pow_of {W : World} (h : laidMetH Tryd.prog powList W) : PowTab W ∧ LaidT W := by
  have h' : laidMet Tryd.prog [("math/bits.deBruijn32tab", Rows.laid_math_bits_deBruijn32tab), ("math/bits.deBruijn64tab", Rows.laid_math_bits_deBruijn64tab), ("internal/strconv.uint64pow10", Rows.laid_internal_strconv_uint64pow10)] W ∧ handlesMet Tryd.prog [("errors.errorType", Rows.laid_errors_errorType)] W := h
  refine ⟨?_, laidT_ofH h'.2⟩
  have h2 : laidMet Tryd.prog [("internal/strconv.uint64pow10", Lib.tabData .u64 Lib.pow10Tab)] W := laidMet.tail (laidMet.tail h'.1)
  exact Lib.tabIs_of_head powGlobal (t := 158) (e := 54) (n := 20) (by kernel_rfl) Tryd.underlying158 Tryd.underlying54 (by kernel_rfl) (by kernel_rfl) h2
theorem powWorld_met (os : Os) (args : Array Value) : laidMetH Tryd.prog powList ((World.doorLaid Tryd.prog 100 os).forCall (fun _ _ => 0) ⟨#[], args, []⟩).memory :=
  laidMetH_of_parts (laidMet_of_run' 8 (by kernel_rfl) (by kernel_rfl)) (by kernel_rfl)
end Go.Proofs.YtbfacegfnbbalaaDoor
