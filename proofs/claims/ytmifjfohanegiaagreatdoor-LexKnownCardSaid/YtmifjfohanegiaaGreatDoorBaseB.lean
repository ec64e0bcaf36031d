/-
  More generic lemmas.
-/
import Derived.Test.YtmifjfohanegiaaGreatDoorBase
namespace Go.Proofs.YtmifjfohanegiaaGreatDoor
set_option linter.unusedVariables false
open Go.RowKit

theorem SlOf.of_block {α : Type} {w w' : World} {en : α → List Value} {size : Nat} {a : Option Addr} {cap : Nat} {xs : List α} (h : SlOf w en size a cap xs) (hb : ∀ b o, a = some ⟨b, o, none⟩ → w'.heap[b]? = w.heap[b]?) : SlOf w' en size a cap xs :=
  ⟨Sl.len h, Sl.le h, Sl.max h, Sl.nil h, fun j hj => by
    obtain ⟨b, o, e, h1⟩ := Sl.at' h j hj
    exact ⟨b, o, e, by rw [← h1]; exact World.cell?_of_block (hb b o e)⟩⟩
theorem SlOf.setCell {α : Type} {w : World} {en : α → List Value} {size : Nat} {g o cap : Nat} {xs : List α} (h : SlOf w en size (some ⟨g, o, none⟩) cap xs) {p : Addr} (hp : p.block ≠ g) (u : Value) : SlOf (w.setCell p u) en size (some ⟨g, o, none⟩) cap xs :=
  h.of_block fun b o e => by cases e; exact Below.heap_setCell w p u g (Ne.symm hp)
theorem SlOf.drew {α : Type} {w : World} {en : α → List Value} {size : Nat} {a : Option Addr} {cap : Nat} {xs : List α} (h : SlOf w en size a cap xs) : SlOf w.drew en size a cap xs :=
  h.keep (Below.refl _ _).drew (Nat.le_refl _)
theorem SlOf.alloc {α : Type} {w : World} {en : α → List Value} {size : Nat} {a : Option Addr} {cap : Nat} {xs : List α} (h : SlOf w en size a cap xs) (o : Obj) : SlOf (w.alloc o) en size a cap xs :=
  h.keep ((Below.refl w.heap.size w).alloc (Nat.le_refl _) o) (Nat.le_refl _)

/-- what a callee left alone, of one cell -/
theorem cell_keep {w w' : World} {a : Addr} {v : Value} (h : w.cell? a = some v) {B : Nat} (hb : Below B w w') (hB : a.block < B) : w'.cell? a = some v := by
  rw [hb.cell hB]; exact h
theorem cell_keep' {w w' : World} {a : Addr} {v : Value} (h : w.cell? a = some v) (hb : Below w.heap.size w w') : w'.cell? a = some v :=
  cell_keep h hb (World.block_lt_of_cell? w _ h)

theorem sized_struct {H : Type} {P : Program} {ts : List TypeId} {ds parts : List (DataW H)} {j : Nat} {t : TypeId} {fs : Array Field}
    (h : (DataW.weightsEach P ts ds).all (· ≤ reachBytes) = true) (ht : ts[j]? = some t) (hd : ds[j]? = some (.agg parts)) (hu : P.underlying t = some (.struct fs)) :
    (DataW.weightsEach P (fs.toList.map (·.type)) parts).all (· ≤ reachBytes) = true := by
  refine List.all_eq_true.2 fun n hn => ?_
  exact List.all_eq_true.1 h n (DataW.weights_mem_each ht hd n (by simpa [DataW.weights, hu] using hn))
end Go.Proofs.YtmifjfohanegiaaGreatDoor
