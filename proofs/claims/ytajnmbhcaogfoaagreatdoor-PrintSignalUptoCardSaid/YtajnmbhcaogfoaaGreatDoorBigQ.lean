/-
  The load of a whole struct as a step of a region that draws its order.
-/
import Derived.Test.YtajnmbhcaogfoaaGreatDoorBaseD
import Derived.Deep.MidRow
import Derived.Deep.WholeRow
import Derived.Test.YtajnmbhcaogfoaaGreatDoorCalm

namespace Go.Proofs.YtajnmbhcaogfoaaGreatDoor
set_option linter.unusedVariables false
open Go.RowKit

theorem Blk.range {w : World} {k : Nat} {cs : Array Value} (h : Blk w k cs) : w.rangeAt k 0 cs.toList := fun j v hv => by
  rw [Nat.zero_add]; exact h.cell j v (by simpa using hv)
/-- what is laid down in a whole struct -/
theorem Blk.row {w : World} {k : Nat} {cs : Array Value} (h : Blk w k cs) (C : Array Value) : Blk (w.setRow k C) k C := by
  obtain ⟨T, h⟩ := h
  exact ⟨T, setRow_heap w k cs C T (0, 0) h⟩
theorem heap_setRow_other (w : World) (g k : Nat) (C : Array Value) (h : k ≠ g) : (w.setRow g C).heap[k]? = w.heap[k]? := by
  simp only [World.setRow, Array.getElem?_modify]
  rw [if_neg (by omega)]
theorem Blk.rowOther {w : World} {k g : Nat} {cs : Array Value} (h : Blk w k cs) (hg : k ≠ g) (C : Array Value) : Blk (w.setRow g C) k cs := by
  obtain ⟨T, h⟩ := h
  exact ⟨T, by rw [heap_setRow_other _ _ _ _ hg]; exact h⟩
theorem below_row {B : Nat} {a w : World} (h : Below B a w) {g : Nat} (hg : B ≤ g) (C : Array Value) : Below B a (w.setRow g C) :=
  h.trans ⟨rfl, rfl, rfl, by simp [World.setRow], fun k hk => heap_setRow_other _ _ _ _ (by omega)⟩
theorem Blk.put {w : World} {k : Nat} {cs : Array Value} (h : Blk w k cs) (j : Nat) (v : Value) : Blk (w.setCell ⟨k, j, none⟩ v) k (cs.setIfInBounds j v) := by
  obtain ⟨T, h⟩ := h
  refine ⟨T, ?_⟩
  simp [World.setCell, Array.getElem?_modify, h]

theorem run_loadS {P : Program} {w : World} {k : Nat} {cs : Array Value} (h : Blk w k cs) (ty : TypeId) (d : TypeDesc) (hu : P.underlying ty = some d) (hd : d.isRow = true) (hi : (P.info? ty).map (·.size) = some cs.size) :
    (loadVar ty ⟨k, 0, none⟩).run P w = .ok (.agg cs) w := by
  have := run_loadVar_mid (P := P) w k 0 ty cs.toList d h.range hu hd (by simpa using hi)
  simpa using this
theorem wpList_loadS {P : Program} {ops : Array Oper} {rest : List Oper} {o : Oper} {a : Act} {w : World} {Q : Exit → Act → World → Prop} {k : Nat} {cs : Array Value} (hb : Blk w k cs) (ty : TypeId) (x : Operand) {d : TypeDesc}
    (hu : P.underlying ty = some d) (hi : (P.info? ty).map (·.size) = some cs.size)
    (h : wpList P ops Q rest (a.put o.dst (.agg cs)) w)
    (hgd : o.guard = none := by rfl) (ho : o.op = .load ty x := by rfl) (hx : a.eval x = .pointer (some ⟨k, 0, none⟩) := by rfl) (hd : d.isRow = true := by rfl) : wpList P ops Q (o :: rest) a w := by
  refine wpList_load_mid hgd ty x ho k 0 hx cs.toList d hb.range hu hd (by simpa using hi) ?_
  simpa using h
/-- the same at an operation that stands behind a test that was met -/
theorem wpList_loadG {P : Program} {ops : Array Oper} {rest : List Oper} {o : Oper} {a : Act} {w : World} {Q : Exit → Act → World → Prop} {k : Nat} {cs : Array Value} (hb : Blk w k cs) (ty : TypeId) (x : Operand) {d : TypeDesc}
    (hu : P.underlying ty = some d) (hi : (P.info? ty).map (·.size) = some cs.size)
    (h : wpList P ops Q rest (a.put o.dst (.agg cs)) w)
    (hgd : Region.wanted o (yielded ops a.tmps) = true := by rfl) (ho : o.op = .load ty x := by rfl) (hx : a.eval x = .pointer (some ⟨k, 0, none⟩) := by rfl) (hd : d.isRow = true := by rfl) : wpList P ops Q (o :: rest) a w := by
  refine wpList_step fun K hK => ?_
  rw [if_pos hgd]
  unfold Oper.wp execOp
  simp only [ho, hx, Instr.loadAt, Instr.sureAddr, Sem.run_bind, Sem.run_pure, Result.andThen_ok, run_loadS hb ty d hu hd hi]
  exact hK _ _ h
theorem wpList_storeS {P : Program} {ops : Array Oper} {rest : List Oper} {o : Oper} {a : Act} {w : World} {Q : Exit → Act → World → Prop} {k : Nat} {old cs : Array Value} (hb : Blk w k old) (ty : TypeId) (x y : Operand)
    (hi : (P.info? ty).map (·.size) = some cs.size) (hs : old.size = cs.size) (h1 : cs.all (·.oneCell') = true)
    (h : wpList P ops Q rest (a.put o.dst undef) (w.setRow k cs))
    (hgd : o.guard = none := by rfl) (ho : o.op = .store ty x y := by rfl) (hx : a.eval x = .pointer (some ⟨k, 0, none⟩) := by rfl) (hy : a.eval y = .agg cs := by rfl) : wpList P ops Q (o :: rest) a w := by
  obtain ⟨T, hb⟩ := hb
  refine wpList_plain hgd fun _ hK => ?_
  unfold Oper.wp execOp
  simp only [ho, hx, hy, Instr.storeAt, Instr.sureAddr, Sem.run_bind, Sem.run_pure, Result.andThen_ok, run_storeVar_row w k T ty old cs hb hi hs h1]
  exact hK _ _ h
/-- a variable that is made and at once laid down whole -/
theorem wpList_newS {P : Program} {ops : Array Oper} {rest : List Oper} {o o2 : Oper} {a : Act} {w : World} {Q : Exit → Act → World → Prop} {Z cs : Array Value} (ty : TypeId) (x y : Operand)
    (hz : (P.info? ty).map (fun i => (i.zero, i.size)) = some (some (.agg Z), cs.size)) (hs : Z.size = cs.size) (h1 : cs.all (·.oneCell') = true)
    (h : wpList P ops Q rest ((a.put o.dst (.pointer (some ⟨w.heap.size, 0, none⟩))).put o2.dst undef) (w.alloc (.cells cs ty)))
    (hgd : o.guard = none := by rfl) (ho : o.op = .alloc ty := by rfl) (hgd2 : o2.guard = none := by rfl) (ho2 : o2.op = .store ty x y := by rfl)
    (hx : (a.put o.dst (.pointer (some ⟨w.heap.size, 0, none⟩))).eval x = .pointer (some ⟨w.heap.size, 0, none⟩) := by rfl) (hy : (a.put o.dst (.pointer (some ⟨w.heap.size, 0, none⟩))).eval y = .agg cs := by rfl) : wpList P ops Q (o :: o2 :: rest) a w := by
  obtain ⟨z1, z2⟩ := zero_of_info hz
  refine wpList_plain hgd fun _ hK => ?_
  unfold Oper.wp execOp
  simp only [ho, Instr.alloc, Sem.run_bind, z1, Result.andThen_ok, newVar, newRow, Value.cells, Sem.run_pure]
  refine hK _ _ ?_
  refine wpList_storeS (k := w.heap.size) (old := Z) (cs := cs) ?_ ty x y z2 hs h1 ?_ hgd2 ho2 hx hy
  · exact Blk.new w Z ty
  · have e : (w.alloc (.cells Z ty)).setRow w.heap.size cs = w.alloc (.cells cs ty) := World.setRow_alloc_new w Z cs ty
    rw [← e] at h
    exact h

theorem Owns.ofBlock {α : Type} {w w' : World} {base : Nat} {e : TypeId} {size : Nat} {en : α → List Value} {v : Value} {xs : List α} (h : Owns w base e size en v xs) (hb : ∀ k, v.ownBlock = some k → w'.heap[k]? = w.heap[k]?) : Owns w' base e size en v xs := by
  refine ⟨h.1, ?_⟩
  rcases h.2 with h0 | ⟨g, cap, cur, rfl, h1, h2, h3⟩
  · exact .inl h0
  · exact .inr ⟨g, cap, cur, rfl, h1, by rw [hb g rfl]; exact h2, h3⟩
end Go.Proofs.YtajnmbhcaogfoaaGreatDoor

namespace Go.Proofs.YtajnmbhcaogfoaaGreatDoor
set_option linter.unusedVariables false
open Go.RowKit

theorem wpQuiet_loadS {P : Program} {ops : Array Oper} {C : World → Prop} {Q : Act → Prop} {rest : List Oper} {o : Oper} {a : Act} {k : Nat} {cs : Array Value} (hS : ∀ w, C w → Blk w k cs) (ty : TypeId) (x : Operand) {d : TypeDesc}
    (hu : P.underlying ty = some d) (hi : (P.info? ty).map (·.size) = some cs.size)
    (h : wpQuiet P ops C Q rest (a.put o.dst (.agg cs)))
    (hgd : o.guard = none := by rfl) (ho : o.op = .load ty x := by rfl) (hx : a.eval x = .pointer (some ⟨k, 0, none⟩) := by rfl) (hd : d.isRow = true := by rfl) : wpQuiet P ops C Q (o :: rest) a := by
  unfold wpQuiet
  rw [if_pos (by simp [Region.wanted, hgd])]
  refine ⟨_, fun w hw => ?_, h⟩
  unfold Oper.quietAt execOp
  simp only [ho, hx, Instr.loadAt, Instr.sureAddr, Sem.run_bind, Sem.run_pure, Result.andThen_ok, run_loadS (hS w hw) ty d hu hd hi]
  exact ⟨rfl, rfl⟩
end Go.Proofs.YtajnmbhcaogfoaaGreatDoor
