/-
  Layer 7: print.role: contract.
-/
import Derived.Test.YtampdbkafkcfdaaGreatDoorPrnB
import Derived.Test.YtampdbkafkcfdaaGreatDoorTxtB
import Derived.Test.YtampdbkafkcfdaaGreatDoorParR
import Derived.Test.YtampdbkafkcfdaaGreatDoorTxtP
import Derived.Lib.SmallJoins

namespace Go.Proofs.YtampdbkafkcfdaaGreatDoor
set_option linter.unusedVariables false
open Go.RowKit Go.Shelf

end Go.Proofs.YtampdbkafkcfdaaGreatDoor

namespace Go.Proofs.YtampdbkafkcfdaaGreatDoor
set_option linter.unusedVariables false
open Go.RowKit Go.Shelf

end Go.Proofs.YtampdbkafkcfdaaGreatDoor

namespace Go.Proofs.YtampdbkafkcfdaaGreatDoor
set_option linter.unusedVariables false
open Go.RowKit Go.Shelf

end Go.Proofs.YtampdbkafkcfdaaGreatDoor

namespace Go.Proofs.YtampdbkafkcfdaaGreatDoor
set_option linter.unusedVariables false
open Go.RowKit Go.Shelf

/-- what a signal holds, its list of receivers apart -/
structure SigD where
  line : Int
  col : Int
  name : List UInt8
  role : Int
  branch : Nat
  start : Int
  size : Int
  moto : Bool
  signed : Bool
  sn : Int
  sd : Int
  on : Int
  od : Int
  mn : Int
  md : Int
  xn : Int
  xd : Int
  unit : List UInt8
def SigD.agg (d : SigD) (tv : Value) : Value := .agg #[.int .i64 d.line, .int .i64 d.col, .string ⟨d.name.toArray⟩, .int .i64 d.role, .int .u64 (d.branch : Nat), .int .i64 d.start, .int .i64 d.size, .bool d.moto, .bool d.signed, .int .i64 d.sn, .int .i64 d.sd, .int .i64 d.on, .int .i64 d.od, .int .i64 d.mn, .int .i64 d.md, .int .i64 d.xn, .int .i64 d.xd, .string ⟨d.unit.toArray⟩, tv]

def ordL (m s : Bool) : List UInt8 := [64, if m then 48 else 49, if s then 45 else 43]

def rolL (r : Int) (b : Nat) : List UInt8 := if r = 1 then [32, 77] else if r = 2 then 32 :: 109 :: Lib.decDigits b else []

theorem cell_oth {W : World} {b o o' : Nat} {v x : Value} (h : o ≠ o') (e : W.cell? ⟨b, o', none⟩ = some x) : (W.setCell ⟨b, o, none⟩ v).cell? ⟨b, o', none⟩ = some x := by
  rw [World.cell?_setCell_other]
  · exact e
  · intro g; exact h (by cases g; rfl)
theorem cell_own {W : World} {a : Addr} {v u : Value} (e : W.cell? a = some u) : (W.setCell a v).cell? a = some v := by
  first | exact World.cell?_setCell_same e | exact World.cell?_setCell_same _ _ _ e | exact World.cell?_setCell_same _ _ _ _ e | exact World.cell?_setCell_same _ _ e | exact World.cell?_setCell_same _ e | (have := World.cell?_setCell_same (h := e); exact this ..)
theorem frozen_two (w : World) (x : Obj) (C : Array Value) (t : TypeId) (fr : Nat × Nat) (j : Nat) (h : (decide (fr.1 ≤ j) && decide (j < fr.2)) = false) : ((w.alloc x).alloc (.cells C t fr)).frozen? ⟨w.heap.size + 1, j, none⟩ = false := by
  have e : ((w.alloc x).alloc (.cells C t fr)).heap[w.heap.size + 1]? = some (.cells C t fr) := by
    show ((w.alloc x).heap.push (.cells C t fr))[w.heap.size + 1]? = _
    rw [show w.heap.size + 1 = (w.alloc x).heap.size by simp]
    exact Array.getElem?_push_size
  unfold World.frozen?
  simp only
  rw [e]
  exact h

set_option maxRecDepth 100000 in
set_option maxHeartbeats 2000000 in
theorem order_any (d : SigD) (tv : Value) (w : World) :
    Calls Tryz.prog 35 #[d.agg tv] w fun e w' => e = .returned (.string ⟨(ordL d.moto d.signed).toArray⟩) ∧ Below w.heap.size w w' := by
  obtain ⟨v0, v1, v2, v3, v4, v5, v6, m, s, v9, v10, v11, v12, v13, v14, v15, v16, v17⟩ := d
  unfold SigD.agg
  simp only
  have HB := Lib.hid (fun o => (Below.refl w.heap.size w).alloc (Nat.le_refl _) o)
  obtain ⟨C, hC⟩ : ∃ C : Array Value, C = #[.int .i64 v0, .int .i64 v1, .string ⟨v2.toArray⟩, .int .i64 v3, .int .u64 (v4 : Nat), .int .i64 v5, .int .i64 v6, .bool m, .bool s, .int .i64 v9, .int .i64 v10, .int .i64 v11, .int .i64 v12, .int .i64 v13, .int .i64 v14, .int .i64 v15, .int .i64 v16, .string ⟨v17.toArray⟩, tv] := ⟨_, rfl⟩
  have hc1 := Go.Joins.run_convert_bytes_const_at (P := Tryz.prog) (w.alloc (.cells C 53)) 114 5 #[.int .u8 64, .int .u8 49, .int .u8 43] 3 3 (w.heap.size + 1) (by simp) Tryz.underlying114 Tryz.underlying5
  rw [hC] at hc1
  have hc2 : ∀ (x y : UInt8) (W : World), W.cell? ⟨w.heap.size + 1, 0, none⟩ = some (.int .u8 64) → W.cell? ⟨w.heap.size + 1, 1, none⟩ = some (.int .u8 (x.toNat : Int)) → W.cell? ⟨w.heap.size + 1, 2, none⟩ = some (.int .u8 (y.toNat : Int)) → (convert 114 9 (.slice (some ⟨w.heap.size + 1, 0, none⟩) 3 3)).run Tryz.prog W = .ok (.string ⟨#[64, x, y]⟩) W := fun x y W a0 a1 a2 =>
    run_convert_bytes_back W 114 9 5 ⟨w.heap.size + 1, 0, none⟩ 3 [64, x, y] Tryz.underlying114 Tryz.underlying5 Tryz.underlying9 fun j hj => by
      rw [Addr.add_lit]
      match j, hj with
      | 0, _ => exact a0
      | 1, _ => exact a1
      | 2, _ => exact a2
  have HC2 := Lib.hid hc2
  clear hc2
  have HB2 : Below w.heap.size w ((w.alloc (.cells C 53)).alloc (.cells #[.int .u8 64, .int .u8 49, .int .u8 43] 5 (3, 4))) := ((Below.refl w.heap.size w).alloc (Nat.le_refl _) _).alloc (by simp) _
  have e0 : ∀ j, ((w.alloc (.cells C 53)).alloc (.cells #[.int .u8 64, .int .u8 49, .int .u8 43] 5 (3, 4))).cell? ⟨w.heap.size + 1, j, none⟩ = (#[.int .u8 64, .int .u8 49, .int .u8 43] : Array Value)[j]? := fun j => Go.Joins.cell_alloc_mark_at _ _ _ _ _ _ (by simp)
  have e1 : ∀ j, ((w.alloc (.cells C 53)).alloc (.cells #[.int .u8 64, .int .u8 49, .int .u8 43] 5 (3, 4))).cell? ⟨w.heap.size, j, none⟩ = C[j]? := fun j => by
    rw [World.cell?_alloc_old _ _ _ (by simp)]
    exact Go.Joins.cell_alloc_mark_at _ _ _ _ _ _ rfl
  have f1 : ((w.alloc (.cells C 53)).alloc (.cells #[.int .u8 64, .int .u8 49, .int .u8 43] 5 (3, 4))).frozen? ⟨w.heap.size + 1, 1, none⟩ = false := frozen_two _ _ _ _ _ _ (by decide)
  have f2 : ((w.alloc (.cells C 53)).alloc (.cells #[.int .u8 64, .int .u8 49, .int .u8 43] 5 (3, 4))).frozen? ⟨w.heap.size + 1, 2, none⟩ = false := frozen_two _ _ _ _ _ _ (by decide)
  have hm := e1 7
  have hs := e1 8
  have h0 := e0 0
  have h1 := e0 1
  have h2 := e0 2
  have hz : ((w.alloc (.cells C 53)).alloc (.cells #[.int .u8 64, .int .u8 49, .int .u8 43] 5 (3, 4))).heap.size = w.heap.size + 2 := by simp
  rw [← hC] at hc1
  simp only [List.size_toArray, List.length_cons, List.length_nil, Nat.reduceAdd] at hc1
  generalize (w.alloc (.cells C 53)).alloc (.cells #[.int .u8 64, .int .u8 49, .int .u8 43] 5 (3, 4)) = W2 at *
  rw [hC] at hc1 hm hs
  clear e0 e1 hC
  simp at hm hs h0 h1 h2
  cases m
  · cases s
    · have hcv := HC2.out 49 43 W2 h0 h1 h2
      go_enter Tryz.func35, Tryz.ntmps35
      go_wp2_with fail
      go_ret
      exact ⟨rfl, HB2⟩
    · have hcv := HC2.out 49 45 (W2.setCell ⟨w.heap.size + 1, 2, none⟩ (.int .u8 45)) (cell_oth (by decide) h0) (cell_oth (by decide) h1) (cell_own h2)
      go_enter Tryz.func35, Tryz.ntmps35
      go_wp2_with fail
      go_ret
      exact ⟨rfl, HB2.setCell (by simp) _⟩
  · cases s
    · have hcv := HC2.out 48 43 (W2.setCell ⟨w.heap.size + 1, 1, none⟩ (.int .u8 48)) (cell_oth (by decide) h0) (cell_own h1) (cell_oth (by decide) h2)
      go_enter Tryz.func35, Tryz.ntmps35
      go_wp2_with fail
      go_ret
      exact ⟨rfl, HB2.setCell (by simp) _⟩
    · have hcv := HC2.out 48 45 ((W2.setCell ⟨w.heap.size + 1, 1, none⟩ (.int .u8 48)).setCell ⟨w.heap.size + 1, 2, none⟩ (.int .u8 45)) (cell_oth (by decide) (cell_oth (by decide) h0)) (cell_oth (by decide) (cell_own h1)) (cell_own (cell_oth (by decide) h2))
      go_enter Tryz.func35, Tryz.ntmps35
      go_wp2_with fail
      go_ret
      exact ⟨rfl, (HB2.setCell (by simp) _).setCell (by simp) _⟩
end Go.Proofs.YtampdbkafkcfdaaGreatDoor

namespace Go.Proofs.YtampdbkafkcfdaaGreatDoor
set_option linter.unusedVariables false
open Go.RowKit Go.Shelf

/-- may a role stand with this branch? -/
def rolB (r : Int) (b : Nat) : Bool := r == 2 || (b == 0 && (r == 1 || r == 0))
def rolV (r : Int) (b : Nat) : Value := .tuple #[.string ⟨(if rolB r b then rolL r b else []).toArray⟩, .bool (rolB r b)]

set_option maxHeartbeats 2000000 in
theorem role_any (d : SigD) (tv : Value) (hb : d.branch < 18446744073709551616) (w : World) (htab : PowTab w) :
    Calls Tryz.prog 29 #[d.agg tv] w fun e w' => e = .returned (rolV d.role d.branch) ∧ Below w.heap.size w w' := by
  obtain ⟨v0, v1, v2, r, b, v5, v6, v7, v8, v9, v10, v11, v12, v13, v14, v15, v16, v17⟩ := d
  unfold SigD.agg
  simp only at hb ⊢
  have HB := Lib.hid (fun o => (Below.refl w.heap.size w).alloc (Nat.le_refl _) o)
  by_cases h2 : r = 2
  · subst h2
    have HR := Lib.hid (show rolV 2 b = .tuple #[.string ⟨(32 :: 109 :: Lib.decDigits b).toArray⟩, .bool true] from rfl)
    generalize rolV 2 b = R at *
    have c := fun o => fmtUint_any b hb (w.alloc o) (PowTab.keep htab (HB.out o))
    have hst : (⟨#[32, 109]⟩ : ByteArray) ++ ⟨(Lib.decDigits b).toArray⟩ = ⟨(32 :: 109 :: Lib.decDigits b).toArray⟩ := strA [32, 109] _
    have hl : (Lib.decDigits b).length ≤ 20 := dec_len64 (by omega)
    generalize Lib.decDigits b = D at *
    clear htab
    go_enter Tryz.func29, Tryz.ntmps29
    go_wp2_with fail
    with_reducible refine (c _).mono ?_
    rintro e w1 ⟨rfl, hb⟩
    have hb2 := bstep (HB.out _) hb (by simp)
    go_wp2_with fail
    go_ret2
    exact ⟨congrArg Ending.returned HR.out.symm, hb2⟩
  have h2' : (r == 2) = false := by rw [beq_eq_false_iff_ne]; omega
  clear htab
  by_cases h0 : b = 0
  · subst h0
    by_cases h1 : r = 1
    · subst h1
      have HR := Lib.hid (show rolV 1 0 = .tuple #[.string ⟨#[32, 77]⟩, .bool true] from rfl)
      generalize rolV 1 0 = R at *
      clear h2'
      go_enter Tryz.func29, Tryz.ntmps29
      go_wp2_with fail
      go_ret2
      exact ⟨congrArg Ending.returned HR.out.symm, HB.out _⟩
    · have h1' : (r == 1) = false := by rw [beq_eq_false_iff_ne]; omega
      have HR := Lib.hid (show rolV r 0 = .tuple #[.string ⟨#[]⟩, .bool (r == 0)] by unfold rolV rolB rolL; rw [h1', h2', if_neg h1, if_neg h2]; simp)
      generalize rolV r 0 = R at *
      go_enter Tryz.func29, Tryz.ntmps29
      go_wp2_with fail
      go_region_with fail
      go_wp2_with fail
      go_ret2
      refine ⟨congrArg Ending.returned HR.out.symm, ?_⟩
      first | exact HB.out _ | exact Go.below_drewN (HB.out _) _ | exact (HB.out _).drewN _ | exact (HB.out _).drew
  · have h0' : ((b : Int) == 0) = false := by rw [beq_eq_false_iff_ne]; omega
    have HR := Lib.hid (show rolV r b = .tuple #[.string ⟨#[]⟩, .bool false] by unfold rolV rolB; rw [h2', show (b == 0) = false by rw [beq_eq_false_iff_ne]; exact h0]; simp)
    generalize rolV r b = R at *
    go_enter Tryz.func29, Tryz.ntmps29
    go_wp2_with fail
    go_ret2
    exact ⟨congrArg Ending.returned HR.out.symm, HB.out _⟩
end Go.Proofs.YtampdbkafkcfdaaGreatDoor
