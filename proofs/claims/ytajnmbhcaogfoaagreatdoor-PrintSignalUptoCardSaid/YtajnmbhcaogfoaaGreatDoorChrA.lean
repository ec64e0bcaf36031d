/-
  chars: control, blank, All; the iterator of a source's runes.
-/
import Derived.Test.YtajnmbhcaogfoaaGreatDoorLexM
import Derived.Test.YtajnmbhcaogfoaaGreatDoorRngF
import Derived.Test.YtajnmbhcaogfoaaGreatDoorBaseD
import Derived.Test.YtajnmbhcaogfoaaGreatDoorShelf
import Derived.Shelf.Abstract
import Derived.Shelf.RegionOpen
import Derived.OwnWalkIn
import Derived.TacticsInMore
import Derived.LoopNIn
import Derived.LoopIn
import Derived.Lib.OthersKept

namespace Go.Proofs.YtajnmbhcaogfoaaGreatDoor
set_option linter.unusedVariables false
open Go.RowKit Go.Shelf
attribute [local go_sem] Oper.semAt_some

theorem Blk.st {w : World} {k : Nat} {cs : Array Value} (h : Blk w k cs) (j : Nat) (v : Value) : Blk (w.setCell ⟨k, j, none⟩ v) k (cs.setIfInBounds j v) := by
  obtain ⟨T, h⟩ := h
  exact ⟨T, by simp [World.setCell, Array.getElem?_modify, h]⟩
theorem Blk.same {w w' : World} {k : Nat} {cs : Array Value} (h : Blk w k cs) (e : w'.heap[k]? = w.heap[k]?) : Blk w' k cs := by
  obtain ⟨T, h⟩ := h
  exact ⟨T, e.trans h⟩

def encU (u : Unt) : Array Value := #[.agg #[.int .i64 u.line, .int .i64 u.col], .int .i32 (u.rune : Nat)]
/-- the place of the k-th unit -/
def plcU (xs : List Unt) : Nat → Int × Int
  | 0 => (1, 1)
  | k + 1 => nextP (plcU xs k) ((xs[k]?.map Unt.rune).getD 0)
theorem plc_at (s : List UInt8) (k : Nat) (hk : k < (unitsL s).length) : (unitsL s)[k].line = (plcU (unitsL s) k).1 ∧ (unitsL s)[k].col = (plcU (unitsL s) k).2 := by
  induction k with
  | zero => exact (unit_lc_f _ _ _ 0 hk).1 rfl
  | succ k ih =>
    obtain ⟨i1, i2⟩ := ih (by omega)
    have h := (unit_lc_f s.length s (1, 1) k (show k < (unitsL s).length by omega)).2 hk
    have e : plcU (unitsL s) (k + 1) = nextP ((unitsL s)[k].line, (unitsL s)[k].col) (unitsL s)[k].rune := by
      show nextP (plcU (unitsL s) k) _ = _
      rw [i1, i2, List.getElem?_eq_getElem (by omega)]; rfl
    rw [e]
    exact Prod.mk.injEq .. ▸ (show ((unitsL s)[k + 1].line, (unitsL s)[k + 1].col) = (_, _) from h)

theorem ctlU_iff (r : Nat) : ctlU r = true ↔ r < 32 ∨ r = 127 := by unfold ctlU; simp
theorem blankU_iff (r : Nat) : blankU r = true ↔ r = 32 ∨ r = 9 ∨ r = 10 ∨ r = 13 := by unfold blankU; simp [or_assoc]
theorem control_any (r : Nat) (w : World) :
    Calls Tryz.prog 97 #[.int .i32 (r : Nat)] w fun e w' => e = .returned (.bool (ctlU r)) ∧ w' = w := by
  have HI := Lib.hid (ctlU_iff r)
  generalize ctlU r = b at *
  by_cases h1 : (r : Int) < 32
  · have HB := Lib.hid (show b = true from HI.out.2 (.inl (by omega)))
    clear HI
    go_enter Tryz.func97, Tryz.ntmps97
    go_wp2_with fail
    go_ret
    exact ⟨by rw [HB.out] <;> rfl, rfl⟩
  · by_cases h2 : r = 127
    · have HB := Lib.hid (show b = true from HI.out.2 (.inr h2))
      have hb : ((r : Int) == 127) = true := by rw [h2]; rfl
      clear HI h2
      go_enter Tryz.func97, Tryz.ntmps97
      go_wp2_with fail
      go_ret
      exact ⟨by rw [HB.out] <;> rfl, rfl⟩
    · have HB := Lib.hid (show b = false by rw [Bool.eq_false_iff]; intro h; rcases HI.out.1 h with h | h <;> omega)
      have hb : ((r : Int) == 127) = false := by rw [beq_eq_false_iff_ne]; omega
      clear HI h2
      go_enter Tryz.func97, Tryz.ntmps97
      go_wp2_with fail
      go_ret
      exact ⟨by rw [HB.out] <;> rfl, rfl⟩
end Go.Proofs.YtajnmbhcaogfoaaGreatDoor
