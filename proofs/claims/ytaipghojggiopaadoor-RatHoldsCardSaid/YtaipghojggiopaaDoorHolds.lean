/-
  The walk of RatHolds.
-/
import Derived.Test.YtaipghojggiopaaDoorRefR
import Derived.Test.YtaipghojggiopaaDoorNews
namespace Go.Proofs.YtaipghojggiopaaDoor
set_option linter.unusedVariables false
open Go.RowKit

/-- the program's answer and the reference's are the same number, and the error is the one whose number is told -/
def SameC (P R : Value) : Prop := ∃ (x : Int) (e : Value) (k : Int), P = .tuple #[.int .i64 x, e] ∧ R = .tuple #[.int .i64 x, .int .i64 k] ∧
  (∀ w, LaidT w → Calls Tryd.prog 16 #[e, .int .i64 k] w fun e w' => e = .returned (.bool true) ∧ Below w.heap.size w w')
theorem sameC_err : SameC (.tuple #[.int .i64 0, errV 1]) (.tuple #[.int .i64 0, .int .i64 1]) :=
  ⟨0, _, 1, rfl, rfl, fun w hg => by simpa using plain_errno 1 1 (by omega) (by omega) w hg⟩
theorem sameC_ok (x : Int) : SameC (.tuple #[.int .i64 x, .nilIface]) (.tuple #[.int .i64 x, .int .i64 0]) :=
  ⟨x, _, 0, rfl, rfl, fun w hg => by simpa using plain_nil 0 w⟩
theorem sameC_cmp (na da nb db : Int) : SameC (if rightB na da && rightB nb db then cmpV (cmpI na da nb db) else argC) (if rightB na da && rightB nb db then refcmpV (cmpI na da nb db) else refargC) := by
  split
  · exact sameC_ok _
  · exact sameC_err
theorem sameC_round (n d : Int) : SameC (if rightB n d then .tuple #[.int .i64 (roundI n d), .nilIface] else .tuple #[.int .i64 0, errV 1]) (if rightB n d then .tuple #[.int .i64 (roundI n d), .int .i64 0] else .tuple #[.int .i64 0, .int .i64 1]) := by
  split
  · exact sameC_ok _
  · exact sameC_err

set_option maxRecDepth 100000 in
set_option maxHeartbeats 4000000 in
theorem ratholds_any (na da nb db : Int) (h1 : In64 na) (h2 : In64 da) (h3 : In64 nb) (h4 : In64 db) (w : World) (hg : LaidT w) :
    Calls Tryd.prog 4 #[.agg #[.int .i64 na, .int .i64 da], .agg #[.int .i64 nb, .int .i64 db]] w fun e w' => e = .returned (.bool true) ∧ Below w.heap.size w w' := by
  have c1 := cmp_any na da nb db h1 h2 h3 h4
  have c2 := refcmp_any na da nb db h1 h2 h3 h4
  have c3 := round_any na da h1 h2
  have c4 := refround_any na da h1 h2
  obtain ⟨px, pe, pk, e1, e2, pc⟩ := sameC_cmp na da nb db
  obtain ⟨qx, qe, qk, e3, e4, qc⟩ := sameC_round na da
  rw [e1] at c1
  rw [e2] at c2
  rw [e3] at c3
  rw [e4] at c4
  clear e1 e2 e3 e4
  obtain ⟨ta, tb, hsz, hbw⟩ := box2 w #[.int .i64 na, .int .i64 da] #[.int .i64 nb, .int .i64 db] 23 23
  have TA := Lib.hid ta
  have TB := Lib.hid tb
  have HB := Lib.hid hbw
  have HG := Lib.hid (LaidT.keep hg hbw)
  clear ta tb hsz hbw hg h1 h2 h3 h4
  go_enter Tryd.func4, Tryd.ntmps4
  go_wp2_with fail
  with_reducible refine (c1 _).mono ?_
  rintro e w1 ⟨rfl, hb⟩
  replace TA := Lib.hid (TA.out.keep hb (Nat.le_refl _))
  replace TB := Lib.hid (TB.out.keep hb (Nat.le_refl _))
  replace HG := Lib.hid (LaidT.keep HG.out hb)
  replace HB := Lib.hid (bstep HB.out hb (Nat.le_refl _))
  clear hb c1
  obtain ⟨a0, a1, _, _⟩ := TA.out.two
  obtain ⟨b0, b1, _, _⟩ := TB.out.two
  go_wp2_with fail
  clear a0 a1 b0 b1
  with_reducible refine (c2 _).mono ?_
  rintro e w2 ⟨rfl, hb⟩
  replace TA := Lib.hid (TA.out.keep hb (Nat.le_refl _))
  replace TB := Lib.hid (TB.out.keep hb (Nat.le_refl _))
  replace HG := Lib.hid (LaidT.keep HG.out hb)
  replace HB := Lib.hid (bstep HB.out hb (Nat.le_refl _))
  clear hb c2
  obtain ⟨a0, a1, _, _⟩ := TA.out.two
  obtain ⟨b0, b1, _, _⟩ := TB.out.two
  go_wp2_with fail
  clear a0 a1 b0 b1
  with_reducible refine (c3 _).mono ?_
  rintro e w3 ⟨rfl, hb⟩
  replace TA := Lib.hid (TA.out.keep hb (Nat.le_refl _))
  replace TB := Lib.hid (TB.out.keep hb (Nat.le_refl _))
  replace HG := Lib.hid (LaidT.keep HG.out hb)
  replace HB := Lib.hid (bstep HB.out hb (Nat.le_refl _))
  clear hb c3
  obtain ⟨a0, a1, _, _⟩ := TA.out.two
  obtain ⟨b0, b1, _, _⟩ := TB.out.two
  go_wp2_with fail
  clear a0 a1 b0 b1
  with_reducible refine (c4 _).mono ?_
  rintro e w4 ⟨rfl, hb⟩
  replace TA := Lib.hid (TA.out.keep hb (Nat.le_refl _))
  replace TB := Lib.hid (TB.out.keep hb (Nat.le_refl _))
  replace HG := Lib.hid (LaidT.keep HG.out hb)
  replace HB := Lib.hid (bstep HB.out hb (Nat.le_refl _))
  clear hb c4
  obtain ⟨a0, a1, _, _⟩ := TA.out.two
  obtain ⟨b0, b1, _, _⟩ := TB.out.two
  go_wp2_with fail
  clear a0 a1 b0 b1
  with_reducible refine (pc _ HG.out).mono ?_
  rintro e w5 ⟨rfl, hb⟩
  replace HG := Lib.hid (LaidT.keep HG.out hb)
  replace HB := Lib.hid (bstep HB.out hb (Nat.le_refl _))
  clear hb
  go_wp2_with fail
  with_reducible refine (qc _ HG.out).mono ?_
  rintro e w6 ⟨rfl, hb⟩
  replace HB := Lib.hid (bstep HB.out hb (Nat.le_refl _))
  clear hb
  go_wp2_with fail
  go_ret
  exact ⟨rfl, HB.out⟩
end Go.Proofs.YtaipghojggiopaaDoor
