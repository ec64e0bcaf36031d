/-
  Contract of rat's sum.
-/
import Derived.Test.YtajebceanonalaaGreatDoorRatF
import Derived.Test.YtajebceanonalaaGreatDoorBaseD
namespace Go.Proofs.YtajebceanonalaaGreatDoor
set_option linter.unusedVariables false
open Go.RowKit

theorem bdrN {B : Nat} {a w : World} (h : Below B a w) (n : Nat) : Below B a (w.drewN n) := ⟨h.os, h.tape, h.output, h.size, h.block⟩
def argV : Value := .tuple #[.agg #[.int .i64 0, .int .i64 0], errV 1]

set_option maxRecDepth 100000 in
set_option maxHeartbeats 2000000 in
theorem sum_bad (na da nb db : Int) (less : Bool) (h1 : In64 na) (h2 : In64 da) (h3 : In64 nb) (h4 : In64 db) (hb : rightB na da = false ∨ rightB nb db = false) (w : World) :
    Calls Tryz.prog 76 #[.agg #[.int .i64 na, .int .i64 da], .agg #[.int .i64 nb, .int .i64 db], .bool less] w fun e w' => e = .returned argV ∧ Below w.heap.size w w' := by
  have ca := right_any na da h1 h2
  have cb := right_any nb db h3 h4
  have hbx := box3 w #[.int .i64 na, .int .i64 da] #[.int .i64 nb, .int .i64 db] #[.int .i64 0, .int .i64 0] 23 23 23
  obtain ⟨ta, tb, tr, hsz, hbw⟩ := hbx
  have TA := Lib.hid ta
  have TB := Lib.hid tb
  have TR := Lib.hid tr
  have HSZ := Lib.hid hsz
  have HBW := Lib.hid hbw
  clear ta tb tr hsz hbw
  cases ha : rightB na da
  · rw [ha] at ca
    go_enter Tryz.func76, Tryz.ntmps76
    go_wp2_with fail
    refine (ca _).mono ?_
    rintro e w1 ⟨rfl, hb1⟩
    clear ca cb
    obtain ⟨r0, r1, r2, r3⟩ := (TR.out.keep hb1 (Nat.le_refl _)).two
    have HFIN := Lib.hid (HBW.out.trans (hb1.mono (by rw [HSZ.out]; omega)))
    clear hb1
    go_wp2_with fail
    exact bodyPost_ret (v := argV) (by simp [results, Tryz.results76, go_sem, argV, errV, r0, r1]) rfl ⟨rfl, (HFIN.out.setCell (by simp; omega) _).setCell (by simp; omega) _⟩
  · have hb' : rightB nb db = false := by
      rcases hb with h | h
      · rw [ha] at h; cases h
      · exact h
    rw [ha] at ca
    rw [hb'] at cb
    go_enter Tryz.func76, Tryz.ntmps76
    go_wp2_with fail
    refine (ca _).mono ?_
    rintro e w1 ⟨rfl, hb1⟩
    clear ca
    have TB1 := Lib.hid (TB.out.keep hb1 (Nat.le_refl _))
    have TR1 := Lib.hid (TR.out.keep hb1 (Nat.le_refl _))
    have HFIN := Lib.hid (HBW.out.trans (hb1.mono (by rw [HSZ.out]; omega)))
    obtain ⟨b0, b1, b2, b3⟩ := TB1.out.two
    clear hb1
    go_wp2_with fail
    refine (cb _).mono ?_
    rintro e w2 ⟨rfl, hb2⟩
    obtain ⟨r0, r1, r2, r3⟩ := (TR1.out.keep hb2 (Nat.le_refl _)).two
    have HFIN2 := Lib.hid (bstep HFIN.out hb2 (Nat.le_refl _))
    clear hb2 b0 b1 b2 b3
    go_wp2_with fail
    exact bodyPost_ret (v := argV) (by simp [results, Tryz.results76, go_sem, argV, errV, r0, r1]) rfl ⟨rfl, (HFIN2.out.setCell (by simp; omega) _).setCell (by simp; omega) _⟩
end Go.Proofs.YtajebceanonalaaGreatDoor
