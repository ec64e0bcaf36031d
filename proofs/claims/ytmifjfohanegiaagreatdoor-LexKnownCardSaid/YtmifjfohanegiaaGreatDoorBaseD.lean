/-
  Blocks of the call's own (boxed structs) and what stays of them behind calls.
-/
import Derived.Test.YtmifjfohanegiaaGreatDoorBaseB
namespace Go.Proofs.YtmifjfohanegiaaGreatDoor
set_option linter.unusedVariables false
open Go.RowKit

/-- block k holds just these cells, and nobody shares them -/
def Blk (w : World) (k : Nat) (cs : Array Value) : Prop := ∃ T, w.heap[k]? = some (.cells cs T)
theorem Blk.keep {w w' : World} {k : Nat} {cs : Array Value} (h : Blk w k cs) {B : Nat} (hb : Below B w w') (hB : w.heap.size ≤ B) : Blk w' k cs := by
  obtain ⟨T, h⟩ := h
  refine ⟨T, ?_⟩
  rw [hb.block k (Nat.lt_of_lt_of_le ?_ hB)]
  · exact h
  · exact (Array.getElem?_eq_some_iff.1 h).1
theorem Blk.lt {w : World} {k : Nat} {cs : Array Value} (h : Blk w k cs) : k < w.heap.size := by
  obtain ⟨T, h⟩ := h
  exact (Array.getElem?_eq_some_iff.1 h).1
theorem Blk.new (w : World) (cs : Array Value) (T : TypeId) : Blk (w.alloc (.cells cs T)) w.heap.size cs := ⟨T, heap_alloc_new w _⟩
theorem Blk.alloc {w : World} {k : Nat} {cs : Array Value} (h : Blk w k cs) (o : Obj) : Blk (w.alloc o) k cs := h.keep ((Below.refl w.heap.size w).alloc (Nat.le_refl _) o) (Nat.le_refl _)
theorem Blk.drewN {w : World} {k : Nat} {cs : Array Value} (h : Blk w k cs) (n : Nat) : Blk (w.drewN n) k cs := h.keep (below_drewN (Below.refl _ _) n) (Nat.le_refl _)
theorem Blk.other {w : World} {k : Nat} {cs : Array Value} (h : Blk w k cs) {a : Addr} (ha : a.block ≠ k) (v : Value) : Blk (w.setCell a v) k cs := by
  obtain ⟨T, h⟩ := h
  exact ⟨T, by rw [Below.heap_setCell w a v k (Ne.symm ha)]; exact h⟩
theorem Blk.cell {w : World} {k : Nat} {cs : Array Value} (h : Blk w k cs) (j : Nat) (u : Value) (hu : cs[j]? = some u) : w.cell? ⟨k, j, none⟩ = some u := by
  obtain ⟨T, h⟩ := h
  rw [cell_of_row _ _ _ cs T (0, 0) h]
  exact hu
theorem Blk.free {w : World} {k : Nat} {cs : Array Value} (h : Blk w k cs) (j : Nat) : w.frozen? ⟨k, j, none⟩ = false := by
  obtain ⟨T, h⟩ := h
  simp [World.frozen?, h]
theorem Blk.two {w : World} {k : Nat} {x y : Value} (h : Blk w k #[x, y]) : w.cell? ⟨k, 0, none⟩ = some x ∧ w.cell? ⟨k, 1, none⟩ = some y ∧ w.frozen? ⟨k, 0, none⟩ = false ∧ w.frozen? ⟨k, 1, none⟩ = false :=
  ⟨h.cell 0 x rfl, h.cell 1 y rfl, h.free 0, h.free 1⟩
theorem Blk.three {w : World} {k : Nat} {x y z : Value} (h : Blk w k #[x, y, z]) : w.cell? ⟨k, 0, none⟩ = some x ∧ w.cell? ⟨k, 1, none⟩ = some y ∧ w.cell? ⟨k, 2, none⟩ = some z ∧ w.frozen? ⟨k, 0, none⟩ = false ∧ w.frozen? ⟨k, 1, none⟩ = false ∧ w.frozen? ⟨k, 2, none⟩ = false :=
  ⟨h.cell 0 x rfl, h.cell 1 y rfl, h.cell 2 z rfl, h.free 0, h.free 1, h.free 2⟩

theorem box1 (w : World) (xs : Array Value) (A : TypeId) :
    Blk (w.alloc (.cells xs A)) w.heap.size xs ∧ (w.alloc (.cells xs A)).heap.size = w.heap.size + 1 ∧ Below w.heap.size w (w.alloc (.cells xs A)) :=
  ⟨Blk.new _ _ _, by simp, (Below.refl _ _).alloc (Nat.le_refl _) _⟩
theorem box2 (w : World) (xs ys : Array Value) (A B : TypeId) :
    Blk ((w.alloc (.cells xs A)).alloc (.cells ys B)) w.heap.size xs ∧ Blk ((w.alloc (.cells xs A)).alloc (.cells ys B)) (w.heap.size + 1) ys ∧ ((w.alloc (.cells xs A)).alloc (.cells ys B)).heap.size = w.heap.size + 2 ∧
    Below w.heap.size w ((w.alloc (.cells xs A)).alloc (.cells ys B)) := by
  have h := Blk.new (w.alloc (.cells xs A)) ys B
  have e : (w.alloc (.cells xs A)).heap.size = w.heap.size + 1 := by simp
  rw [e] at h
  exact ⟨(Blk.new w xs A).alloc _, h, by simp, ((Below.refl _ _).alloc (Nat.le_refl _) _).alloc (by simp) _⟩
theorem box3 (w : World) (xs ys zs : Array Value) (A B C : TypeId) :
    Blk (((w.alloc (.cells xs A)).alloc (.cells ys B)).alloc (.cells zs C)) w.heap.size xs ∧ Blk (((w.alloc (.cells xs A)).alloc (.cells ys B)).alloc (.cells zs C)) (w.heap.size + 1) ys ∧
    Blk (((w.alloc (.cells xs A)).alloc (.cells ys B)).alloc (.cells zs C)) (w.heap.size + 1 + 1) zs ∧ (((w.alloc (.cells xs A)).alloc (.cells ys B)).alloc (.cells zs C)).heap.size = w.heap.size + 3 ∧
    Below w.heap.size w (((w.alloc (.cells xs A)).alloc (.cells ys B)).alloc (.cells zs C)) := by
  obtain ⟨h1, h2, h3, h4⟩ := box2 w xs ys A B
  have h := Blk.new ((w.alloc (.cells xs A)).alloc (.cells ys B)) zs C
  rw [h3] at h
  exact ⟨h1.alloc _, h2.alloc _, h, by simp, h4.alloc (by simp; omega) _⟩
end Go.Proofs.YtmifjfohanegiaaGreatDoor
