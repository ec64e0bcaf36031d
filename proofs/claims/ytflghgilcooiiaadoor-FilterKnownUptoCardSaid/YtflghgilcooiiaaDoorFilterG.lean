/-
  Contracts of busbarlaw24's works and frame.
-/
import Derived.Test.YtflghgilcooiiaaDoorFilterF
import Derived.Test.YtflghgilcooiiaaDoorFilterA
namespace Go.Proofs.YtflghgilcooiiaaDoor
set_option linter.unusedVariables false
open Go.RowKit

set_option maxRecDepth 100000 in
set_option maxHeartbeats 1000000 in
theorem works_any (w : World) (hno : NoneAt w) :
    Calls Tryd.prog 14 #[] w fun e w' => e = .returned (.bool true) ∧ Below w.heap.size w w' := by
  have hl : ∀ r ∈ [(⟨false, 256, 1792⟩ : RuleD)], okRule r := by simp [okRule]
  have hp := hno.pos
  have hb0 : Below w.heap.size w (w.alloc (.cells #[.bool false, .int .u32 256, .int .u32 1792] 38)) := (Below.refl _ _).alloc (Nat.le_refl _) _
  have hs0 : SlR (w.alloc (.cells #[.bool false, .int .u32 256, .int .u32 1792] 38)) (some ⟨w.heap.size, 0, none⟩) 1 [⟨false, 256, 1792⟩] := SlOf.lit w enRule 3 (fun _ => rfl) _ _ _ 1 rfl rfl (by decide)
  have hn0 := hno.keep hb0 hp
  go_enter Tryd.func14, Tryd.ntmps14
  go_wp2_with fail
  refine (takes_any _ hl 1 rfl _ _ 291 (by decide) false _ _ hs0).mono ?_
  rintro e w1 ⟨rfl, hb1⟩
  have hs1 := hs0.keep hb1 (Nat.le_refl _)
  have hb2 := bstep hb0 hb1 (Nat.le_refl _)
  have v1 : takesN [(⟨false, 256, 1792⟩ : RuleD)] false 291 = true := by decide
  rw [v1]
  go_wp2_with fail
  refine (takes_any _ hl 1 rfl _ _ 547 (by decide) false _ _ hs1).mono ?_
  rintro e w2 ⟨rfl, hb3⟩
  have hs2 := hs1.keep hb3 (Nat.le_refl _)
  have hb4 := bstep hb2 hb3 (Nat.le_refl _)
  have v2 : takesN [(⟨false, 256, 1792⟩ : RuleD)] false 547 = false := by decide
  rw [v2]
  go_wp2_with fail
  refine (less_any _ hl 1 rfl _ _ _ (hno.keep hb4 hp) hs2 (by simp)).mono ?_
  rintro e w3 ⟨v, rfl, hb5, ho⟩
  have v3 : lessN [(⟨false, 256, 1792⟩ : RuleD)] = [⟨false, 256, 1792⟩] := by decide
  rw [v3] at ho
  obtain ⟨a, cap, rfl, hs3⟩ := ho.shape
  go_wp2_with fail
  go_ret
  exact ⟨rfl, bstep hb4 hb5 (Nat.le_refl _)⟩

def frameId (id : Nat) (wide : Bool) : Nat := id &&& idsN wide

set_option maxHeartbeats 1000000 in
theorem frame_any (id : Nat) (hid : id < 4294967296) (wide : Bool) (w : World) :
    Calls Tryd.prog 15 #[.int .u32 id, .bool wide] w fun e w' => e = .returned (.agg #[.int .u32 (frameId id wide : Nat), .bool wide, .slice none 0 0]) ∧ Below w.heap.size w w' := by
  have e1 : bits BinOp.and IntKind.u32 (id : Int) ((idsN wide : Nat) : Int) = ((id &&& idsN wide : Nat) : Int) := u32_and_nat id _ hid (Nat.lt_trans (idsN_lt _) (by decide))
  cases wide
  · have E : Hid (bits BinOp.and IntKind.u32 (id : Int) 2047 = ((frameId id false : Nat) : Int)) := e1
    clear e1
    go_enter Tryd.func15, Tryd.ntmps15
    go_wp2
    exact bodyPost_ret (v := .agg #[.int .u32 (bits BinOp.and IntKind.u32 (id : Int) 2047), .bool false, .slice none 0 0]) (by simp [results, Tryd.results15, go_sem]) rfl ⟨by rw [E.out], (Below.refl _ _).alloc (Nat.le_refl _) _⟩
  · have E : Hid (bits BinOp.and IntKind.u32 (id : Int) 536870911 = ((frameId id true : Nat) : Int)) := e1
    clear e1
    go_enter Tryd.func15, Tryd.ntmps15
    go_wp2
    exact bodyPost_ret (v := .agg #[.int .u32 (bits BinOp.and IntKind.u32 (id : Int) 536870911), .bool true, .slice none 0 0]) (by simp [results, Tryd.results15, go_sem]) rfl ⟨by rw [E.out], (Below.refl _ _).alloc (Nat.le_refl _) _⟩
end Go.Proofs.YtflghgilcooiiaaDoor
