/-
  The walk of FilterLess.
-/
import Derived.Test.YtflghgilcooiiaaDoorFilterF
import Derived.Test.YtflghgilcooiiaaDoorFilterN
import Derived.Test.YtflghgilcooiiaaDoorApartRule
namespace Go.Proofs.YtflghgilcooiiaaDoor
set_option linter.unusedVariables false
open Go.RowKit

set_option maxRecDepth 100000 in
set_option maxHeartbeats 2000000 in
theorem filterLess_walk (l : List RuleD) (hl : ∀ r ∈ l, okRule r) (a : Option Addr) (cap : Nat) (w : World) (hno : NoneAt w) (hs : SlR w a cap l) (hr : l.length * 12 ≤ 140737488351232) :
    Calls Tryd.prog 3 #[.slice a l.length cap] w fun e w' => e = .returned (.bool true) ∧ Below w.heap.size w w' := by
  have hp := hno.pos
  have h1 := hs.len
  have HL := Lib.hid hl
  clear hl
  by_cases hbig : (400 : Int) < l.length
  · go_enter Tryd.func3, Tryd.ntmps3
    go_wp2_with fail
    go_ret
    exact ⟨rfl, Below.refl _ _⟩
  · go_enter Tryd.func3, Tryd.ntmps3
    go_wp2_with fail
    refine (lentRules_any l a cap _ hs hr).mono ?_
    rintro e w1 ⟨g, c, rfl, hb1, hg, hox⟩
    have hgs : g < w1.heap.size := (hox.lt g rfl).2
    have hx := hox.sl.2
    have hx1 : SlR w1 (some ⟨g, 0, none⟩) c l := SlOf.pre hx enRule_len
    clear hox
    go_wp2_with fail
    refine (less_any l HL.out _ rfl _ _ _ (hno.keep hb1 hp) hx1 hr).mono ?_
    rintro e w2 ⟨va, rfl, hb2, hoa⟩
    have hb3 := bstep hb1 hb2 (Nat.le_refl _)
    have hsz2 := hb2.size
    go_wp2_with fail
    refine (less_any l HL.out _ rfl _ _ _ (hno.keep hb3 hp) (hx1.keep hb2 (Nat.le_refl _)) hr).mono ?_
    rintro e w3 ⟨vb, rfl, hb4, hob⟩
    have hsz3 := hb4.size
    have hb5 := bstep hb3 hb4 (Nat.le_refl _)
    have hx3 := hx.keep (bstep hb2 hb4 (Nat.le_refl _)) (Nat.le_refl _)
    have hab : Apart va vb := fun k h1 h2 => by
      have := (hoa.lt k h1).2
      have := (hob.lt k h2).1
      omega
    have hoa3 := hoa.keep hb4 (Nat.le_refl _)
    have hob3 := hob.fromBase (show w1.heap.size ≤ w2.heap.size by omega)
    have hb13 : Below w1.heap.size w1 w3 := bstep hb2 hb4 (Nat.le_refl _)
    clear hx hx1 hb1 hb2 hb3 hb4 hoa hob
    go_wp2_with fail
    refine (lessRef_any l HL.out _ rfl _ _ _ (hs.keep hb5 (Nat.le_refl _)) hr).mono ?_
    rintro e w4 ⟨vw, rfl, hb6, how⟩
    have hb7 := bstep hb5 hb6 (Nat.le_refl _)
    have hx4 := hx3.keep hb6 (Nat.le_refl _)
    have hoa4 := hoa3.keep hb6 (Nat.le_refl _)
    have hob4 := hob3.keep hb6 (Nat.le_refl _)
    have hb14 := bstep hb13 hb6 (Nat.le_refl _)
    obtain ⟨aw, cw, rfl, hsw⟩ := how.shape
    obtain ⟨aa, ca, rfl, hsa⟩ := hoa4.shape
    obtain ⟨ab, cb, rfl, hsb⟩ := hob4.shape
    clear hx3 hoa3 hob3 hb5 hb6 hb13 how
    have hll := less_le l
    generalize lessN l = m at *
    go_wp2_with fail
    refine (sameRules_any m _ _ rfl rfl _ _ _ _ _ hsa hsw).mono ?_
    rintro e w5 ⟨rfl, hb8⟩
    have hb9 := bstep hb7 hb8 (Nat.le_refl _)
    have hb15 := bstep hb14 hb8 (by omega)
    have hx5 := hx4.keep hb8 (Nat.le_refl _)
    have hoa5 := hoa4.keep hb8 (Nat.le_refl _)
    have hob5 := hob4.keep hb8 (Nat.le_refl _)
    have hsb5 := hsb.keep hb8 (Nat.le_refl _)
    have hsw5 := hsw.keep hb8 (Nat.le_refl _)
    clear hb7 hb14 hb8 hx4 hoa4 hob4 hsa hsb hsw
    go_wp2_with fail
    refine (sameRules_any m _ _ rfl rfl _ _ _ _ _ hsb5 hsw5).mono ?_
    rintro e w6 ⟨rfl, hb8⟩
    have hb10 := bstep hb9 hb8 (Nat.le_refl _)
    have hb16 := bstep hb15 hb8 (by omega)
    have hx6 := hx5.keep hb8 (Nat.le_refl _)
    have hoa6 := hoa5.keep hb8 (Nat.le_refl _)
    have hob6 := hob5.keep hb8 (Nat.le_refl _)
    clear hb9 hb15 hb8 hx5 hoa5 hob5 hsb5 hsw5
    go_wp2_with fail
    have hsz6 := hb16.size
    have hnew : Below w6.heap.size w6 (w6.alloc (.cells #[.slice aa m.length ca, .slice ab m.length cb] 22)) := (Below.refl _ _).alloc (Nat.le_refl _) _
    have hlist : Owns (w6.alloc (.cells #[.slice aa m.length ca, .slice ab m.length cb] 22)) w1.heap.size 22 1 enV (.slice (some ⟨w6.heap.size, 0, none⟩) 2 2) ((List.range 2).map fun j => if j = 0 then .slice aa m.length ca else .slice ab m.length cb) :=
      Owns.lit w6 w1.heap.size enV 1 (fun _ => rfl) _ _ _ 2 rfl rfl (by decide) hsz6
    have hoa7 := hoa6.keep hnew (Nat.le_refl _)
    have hob7 := hob6.keep hnew (Nat.le_refl _)
    have hx7 := hx6.keep hnew (Nat.le_refl _)
    have hb11 := bstep hb10 hnew (Nat.le_refl _)
    clear hnew hb10 hb16 hx6 hoa6 hob6
    have hsz7 : w1.heap.size ≤ (w6.alloc (.cells #[.slice aa m.length ca, .slice ab m.length cb] 22)).heap.size := by simp; omega
    generalize w6.alloc (.cells #[.slice aa m.length ca, .slice ab m.length cb] 22) = w7 at *
    refine (apartRules_any w1.heap.size 2 (fun j => if j = 0 then .slice aa m.length ca else .slice ab m.length cb) (fun _ => m) _ _ _ (by omega) hsz7 ?_ ?_ hlist ?_).mono ?_
    · intro j hj
      by_cases h0 : j = 0
      · simp only [h0, if_true]; exact hoa7
      · simp only [h0, if_false]; exact hob7
    · intro i j hi hj hij
      by_cases h0 : i = 0
      · have h2 : j ≠ 0 := by omega
        simp only [h0, h2, if_true, if_false]; exact hab
      · have h2 : j = 0 := by omega
        simp only [h0, h2, if_true, if_false]; exact hab.symm
    · intro j hj
      have : m.length ≤ 400 := by omega
      omega
    rintro e w8 ⟨rfl, hb12⟩
    have hszw : w.heap.size ≤ w1.heap.size := by omega
    have hb17 : Below w.heap.size w w8 := hb11.trans (hb12.mono hszw)
    have hx8 : SlR w8 (some ⟨g, 0, none⟩) c (l ++ marksR 16) := Sl.below hx7 hb12 (fun b o e => by cases e; exact hgs)
    clear hb11 hb12 hx7 hlist hoa7 hob7 hab
    go_wp2_with fail
    refine (keptRules_any l a cap g 0 c _ (hs.keep hb17 (Nat.le_refl _)) hx8).mono ?_
    rintro e w9 ⟨rfl, hb18⟩
    go_wp2_with fail
    go_ret
    exact ⟨rfl, bstep hb17 hb18 (Nat.le_refl _)⟩
end Go.Proofs.YtflghgilcooiiaaDoor
