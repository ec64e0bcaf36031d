/-
  What the rows' list gives: filter.none's cells.
-/
import Derived.Test.YtflghgilcooiiaaDoorCards
import Derived.Test.YtflghgilcooiiaaDoorTie
import Derived.Test.YtflghgilcooiiaaDoorFilterC
import Derived.Lib.LaidTab
namespace Go.Proofs.YtflghgilcooiiaaDoor
set_option linter.unusedVariables false
open Go.ChangeShapes Go.WideShapes Go.ChangeAt Go.RowKit

theorem none_global : Tryd.prog.globalNamed "busbar/filter.none" = some 0 := by kernel_rfl
theorem none_type : (Tryd.prog.globals[0]?).map (·.type) = some 38 := by kernel_rfl

theorem noneAt_of {W : World} (h : laidMet Tryd.prog [("busbar/filter.none", Rows.laid_busbar_filter_none)] W) : NoneAt W := by
  obtain ⟨ps, ⟨g', t', cs, fuel, p, q, hg', ht', hvar, hd, _, _⟩, _⟩ := h
  obtain rfl := Option.some.inj (none_global.symm.trans hg')
  obtain rfl := Option.some.inj (none_type.symm.trans ht')
  obtain ⟨xs, n, hfu, he, hlen, hxl, hf⟩ := DataW.trod_struct Tryd.underlying38 hd
  have hc : Tryd.prog.cellsOf 38 = 3 := by kernel_rfl
  have hc4 : Tryd.prog.cellsOf 4 = 1 := by kernel_rfl
  have hc23 : Tryd.prog.cellsOf 28 = 1 := by kernel_rfl
  obtain ⟨cl⟩ := cs
  rw [hc] at hlen
  have hxl3 : xs.length = 3 := hxl
  match cl, hlen, xs, hxl3 with
  | [c0, c1, c2], _, [x0, x1, x2], _ =>
    have h0 : DataW.trod (fun _ => ()) Tryd.prog W 0 (fun _ => true) false n 4 (([c0, c1, c2].drop 0).take (Tryd.prog.cellsOf 4)) = some x0 := hf 0 _ rfl
    have h1 : DataW.trod (fun _ => ()) Tryd.prog W 0 (fun _ => true) false n 28 (([c0, c1, c2].drop 1).take (Tryd.prog.cellsOf 28)) = some x1 := hf 1 _ rfl
    have h2 : DataW.trod (fun _ => ()) Tryd.prog W 0 (fun _ => true) false n 28 (([c0, c1, c2].drop 2).take (Tryd.prog.cellsOf 28)) = some x2 := hf 2 _ rfl
    rw [hc4] at h0
    rw [hc23] at h1 h2
    obtain ⟨b, e0, f0⟩ := DataW.trod_bool Tryd.underlying4 h0
    obtain ⟨n1, e1, f1, _⟩ := DataW.trod_int Tryd.underlying28 h1
    obtain ⟨n2, e2, f2, _⟩ := DataW.trod_int Tryd.underlying28 h2
    simp at e0 e1 e2
    subst e0 e1 e2 f0 f1 f2
    have he1 := congrArg Prod.fst he
    simp [Rows.laid_busbar_filter_none] at he1
    obtain ⟨rfl, rfl, rfl⟩ := he1
    exact ⟨World.var?_cell none_global hvar 0, World.var?_cell none_global hvar 1, World.var?_cell none_global hvar 2⟩
end Go.Proofs.YtflghgilcooiiaaDoor
