/-
  Plain of the kit at nil and at the numbers of package api.
-/
import Derived.Test.YtlgbgobpdkilaaaGreatDoorAsErr
import Derived.Test.YtlgbgobpdkilaaaGreatDoorRatD
namespace Go.Proofs.YtlgbgobpdkilaaaGreatDoor
set_option linter.unusedVariables false
open Go.RowKit

/-- errors.errorType, as it is laid -/
def LaidT (w : World) : Prop := w.cell? ⟨0, 0, none⟩ = some (.iface 152 (.agg #[.pointer (some ⟨9, 36, none⟩)]))
theorem LaidT.keep {w w' : World} (h : LaidT w) (hb : Below w.heap.size w w') : LaidT w' := cell_keep' h hb

set_option maxRecDepth 100000 in
set_option maxHeartbeats 1000000 in
theorem plain_nil (n : Int) (w : World) : Calls Tryz.prog 21 #[.nilIface, .int .i64 n] w fun e w' => e = .returned (.bool (decide (0 = n))) ∧ Below w.heap.size w w' := by
  have c1 := num_nil
  by_cases h : 0 = n
  · subst h
    go_enter Tryz.func21, Tryz.ntmps21
    go_wp2_with fail
    with_reducible refine (c1 _).mono ?_
    rintro e w1 ⟨rfl, rfl⟩
    go_wp2_with fail
    go_ret
    exact ⟨rfl, (Below.refl _ _).alloc (Nat.le_refl _) _⟩
  · have hz : ((0 : Int) == n) = false := by rw [beq_eq_false_iff_ne]; exact h
    rw [decide_eq_false h]
    go_enter Tryz.func21, Tryz.ntmps21
    go_wp2_with fail
    with_reducible refine (c1 _).mono ?_
    rintro e w1 ⟨rfl, rfl⟩
    go_wp2_with fail
    go_ret
    exact ⟨rfl, (Below.refl _ _).alloc (Nat.le_refl _) _⟩

set_option maxRecDepth 100000 in
set_option maxHeartbeats 1000000 in
theorem plain_errno (m n : Int) (h1 : 1 ≤ m) (h2 : m ≤ 26) (w : World) (hg : LaidT w) : Calls Tryz.prog 21 #[errV m, .int .i64 n] w fun e w' => e = .returned (.bool (decide (m = n))) ∧ Below w.heap.size w w' := by
  have c1 := num_errno m h1 h2
  have HG := Lib.hid hg
  clear hg
  unfold errV
  by_cases h : m = n
  · subst h
    go_enter Tryz.func21, Tryz.ntmps21
    go_wp2_with fail
    with_reducible refine (c1 _).mono ?_
    rintro e w1 ⟨rfl, rfl⟩
    go_wp2_with fail
    with_reducible refine (as_errno m _ _ ?_).mono ?_
    · exact HG.out.keep ((Below.refl _ _).alloc (Nat.le_refl _) _)
    rintro e w2 ⟨rfl, hb⟩
    have HB := Lib.hid (((Below.refl _ _).alloc (Nat.le_refl _) _).trans (hb.mono (by simp)))
    clear hb
    go_wp2_with fail
    go_ret
    exact ⟨by simp, HB.out⟩
  · have hz : (m == n) = false := by rw [beq_eq_false_iff_ne]; exact h
    rw [decide_eq_false h]
    go_enter Tryz.func21, Tryz.ntmps21
    go_wp2_with fail
    with_reducible refine (c1 _).mono ?_
    rintro e w1 ⟨rfl, rfl⟩
    go_wp2_with fail
    go_ret
    exact ⟨rfl, (Below.refl _ _).alloc (Nat.le_refl _) _⟩

end Go.Proofs.YtlgbgobpdkilaaaGreatDoor
