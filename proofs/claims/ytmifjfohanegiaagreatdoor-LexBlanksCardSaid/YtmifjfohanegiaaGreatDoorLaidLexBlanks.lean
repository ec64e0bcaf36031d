/-
  What the row LexBlanks lists: a world that meets it; what it gives.
-/
import Derived.Test.YtmifjfohanegiaaGreatDoorCards
import Derived.Test.YtmifjfohanegiaaGreatDoorTie
import Derived.Test.YtmifjfohanegiaaGreatDoorChrD
import Derived.Lay
import Derived.Stop.LaidErr
import Derived.LaidLaws
import Derived.LaidHandle
import Derived.LaidMore
import Derived.MakeChecks
import Derived.Stop.Joined
import Derived.RowKit
import Derived.RowKitTokens
import Derived.ChangeSame
import Derived.ChangeVars
import Derived.JoinedOf
import Derived.Lib.LaidTab
import Derived.Lib.LaidU8
namespace Go.Proofs.YtmifjfohanegiaaGreatDoor.lexBlanks
set_option linter.unusedVariables false
open Go.ChangeShapes Go.WideShapes Go.ChangeAt Go.RowKit

abbrev laidL : List (String × DataW Unit) := [("unicode/utf8.acceptRanges", Rows.laid_unicode_utf8_acceptRanges), ("unicode/utf8.first", Rows.laid_unicode_utf8_first)]
abbrev laidD : List (String × DataW Unit) := [("unicode/utf8.acceptRanges", Rows.laid_unicode_utf8_acceptRanges), ("unicode/utf8.first", Rows.laid_unicode_utf8_first)]
noncomputable def laidB (os : Os) : World := World.holding Tryz.prog os ⟨#[], #[], []⟩
noncomputable def laidW (os : Os) : World := (laidB os).layVars Tryz.prog laidD
theorem laidW_os (os : Os) : (laidW os).os = os := by unfold laidW; rw [World.layVars_os]; rfl
theorem laidD_met (os : Os) : laidMet Tryz.prog laidD (laidW os) := by
  have e1 : (laidD.filter fun x => (laidD.map (·.1)).contains x.1) = laidD := List.filter_eq_self.2 fun x hx => List.contains_iff_mem.2 (List.mem_map.2 ⟨x, hx, rfl⟩)
  have e2 : (laidD.filter fun x => !(laidD.map (·.1)).contains x.1) = [] := List.filter_eq_nil_iff.2 fun x hx => by rw [List.contains_iff_mem.2 (List.mem_map.2 ⟨x, hx, rfl⟩)]; simp
  exact laidMet_layVars (w0 := laidB os) (laidD.map (·.1)) [] (by rw [e1]; rfl) (by rw [e1]; kernel_rfl) (by rw [e1]; kernel_rfl) (by rw [e2]; exact LaidIn.none)
theorem laidD_met' (os : Os) (args : Array Value) : laidMet Tryz.prog laidD ((laidW os).forCall (fun _ _ => 0) ⟨#[], args, []⟩).memory :=
  (laidD_met os).of_heap (by simp [World.memory, World.forCall, Input.heap])
theorem laidW_met (os : Os) (args : Array Value) : laidMetH Tryz.prog laidL ((laidW os).forCall (fun _ _ => 0) ⟨#[], args, []⟩).memory := by
  rw [MakeChecks.laidMetH_plain _ _ _ (by kernel_rfl)]; exact laidD_met' os args
theorem laidMet_ofH {W : World} (h0 : laidMetH Tryz.prog laidL W) : laidMet Tryz.prog laidD W := by
  rw [MakeChecks.laidMetH_plain _ _ _ (by kernel_rfl)] at h0; exact h0
theorem gFirst : Tryz.prog.globalNamed "unicode/utf8.first" = some 4 := by kernel_rfl
theorem gAcc : Tryz.prog.globalNamed "unicode/utf8.acceptRanges" = some 5 := by kernel_rfl
theorem tFirst : (Tryz.prog.globals[4]?).map (·.type) = some 194 := by kernel_rfl
theorem tAcc : (Tryz.prog.globals[5]?).map (·.type) = some 237 := by kernel_rfl
theorem c8 : Tryz.prog.cellsOf 5 = 1 := by kernel_rfl
theorem cF : Tryz.prog.cellsOf 194 = 256 := by kernel_rfl
theorem cR : Tryz.prog.cellsOf 236 = 2 := by kernel_rfl
theorem eFirst : Rows.laid_unicode_utf8_first = Lib.firstData := by kernel_rfl
theorem eAcc : Rows.laid_unicode_utf8_acceptRanges = Lib.acceptData := by kernel_rfl
theorem tabsU_ofH {W : World} (h0 : laidMetH Tryz.prog laidL W) : TabsU W := by
  have hL := laidMet_ofH h0
  have r1 : Lib.VarReads Tryz.prog W "unicode/utf8.first" Rows.laid_unicode_utf8_first := Lib.laidMet.reads hL (.tail _ (.head _))
  rw [eFirst] at r1
  have r2 : Lib.VarReads Tryz.prog W "unicode/utf8.acceptRanges" Rows.laid_unicode_utf8_acceptRanges := Lib.laidMet.reads hL (.head _)
  rw [eAcc] at r2
  constructor
  · intro c hc
    obtain ⟨g, t, cs, fuel, p, hg, hty, hvar, hd⟩ := r1
    obtain rfl : 4 = g := Option.some.inj (gFirst.symm.trans hg)
    obtain rfl : 194 = t := Option.some.inj (tFirst.symm.trans hty)
    have hcs := Lib.cells_of_tab Tryz.underlying194 Tryz.underlying5 c8 cF hd
    rw [World.var?_cell hg hvar c, ← Array.getElem?_toList, hcs]
    simp [Lib.firstTab, hc]
  · intro i hi
    obtain ⟨g, t, cs, fuel, p, hg, hty, hvar, hd⟩ := r2
    obtain rfl : 5 = g := Option.some.inj (gAcc.symm.trans hg)
    obtain rfl : 237 = t := Option.some.inj (tAcc.symm.trans hty)
    obtain ⟨fu, d, q, h1, h2⟩ := Lib.array_elem Tryz.underlying237 hd i hi
    rw [List.getElem?_map, List.getElem?_range hi] at h1
    obtain rfl := Option.some.inj h1
    rw [cR] at h2
    have hz := Lib.ints_of_struct (k := .u8) Tryz.underlying236 (fun j f hj => by
      rcases j with _ | _ | j
      · simp at hj; subst hj; exact ⟨Tryz.underlying5, rfl, c8⟩
      · simp at hj; subst hj; exact ⟨Tryz.underlying5, rfl, c8⟩
      · simp at hj) cR h2
    have z0 := congrArg (·[0]?) hz
    have z1 := congrArg (·[1]?) hz
    simp only [List.getElem?_take, List.getElem?_drop] at z0 z1
    exact ⟨by rw [World.var?_cell hg hvar (2 * i), ← Array.getElem?_toList]; simpa [Nat.mul_comm] using z0, by rw [World.var?_cell hg hvar (2 * i + 1), ← Array.getElem?_toList]; simpa [Nat.mul_comm] using z1⟩
end Go.Proofs.YtmifjfohanegiaaGreatDoor.lexBlanks
