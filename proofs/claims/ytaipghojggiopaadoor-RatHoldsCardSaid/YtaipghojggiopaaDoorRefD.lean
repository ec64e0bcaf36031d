/-
  The reference's Add, Sub, Mul, Div of whatever two: contracts.
-/
import Derived.Test.YtaipghojggiopaaDoorRefB
namespace Go.Proofs.YtaipghojggiopaaDoor
set_option linter.unusedVariables false
open Go.RowKit


set_option maxRecDepth 100000 in
set_option maxHeartbeats 4000000 in
theorem refdivz_ok (na da nb db : Int) (ha : RightP na da) (hb : RightP nb db) (hn0 : nb = 0) (w : World) :
    Calls Tryd.prog 28 #[.agg #[.int .i64 na, .int .i64 da], .agg #[.int .i64 nb, .int .i64 db]] w fun e w' => e = .returned (.tuple #[.agg #[.int .i64 0, .int .i64 0], .int .i64 10]) ∧ Below w.heap.size w w' := by
  obtain ⟨a1, a2, a3, a4, a5⟩ := ha
  obtain ⟨b1, b2, b3, b4, b5⟩ := hb
  have ra := (rightB_iff na da ⟨a3, a4⟩ ⟨by omega, by omega⟩).2 ⟨a1, a2, a3, a4, a5⟩
  have rb := (rightB_iff nb db ⟨b3, b4⟩ ⟨by omega, by omega⟩).2 ⟨b1, b2, b3, b4, b5⟩
  have ca := refright_any na da ⟨a3, a4⟩ ⟨by omega, by omega⟩
  have cb := refright_any nb db ⟨b3, b4⟩ ⟨by omega, by omega⟩
  rw [ra] at ca
  rw [rb] at cb
  have hz : (nb == 0) = true := by rw [beq_iff_eq]; exact hn0
  clear hn0
  have hbx := box3 w #[.int .i64 na, .int .i64 da] #[.int .i64 nb, .int .i64 db] #[.int .i64 0, .int .i64 0] 23 23 23
  obtain ⟨ta, tb, tr, hsz, hbw⟩ := hbx
  have TA := Lib.hid ta
  have TB := Lib.hid tb
  have TR := Lib.hid tr
  have HBW := Lib.hid hbw
  clear ta tb tr hsz hbw
  clear a1 a2 a3 a4 a5 b1 b2 b3 b4 b5 ra rb
  go_enter Tryd.func28, Tryd.ntmps28
  go_wp2_with fail
  with_reducible refine (ca _).mono ?_
  rintro e w1 ⟨rfl, hb1⟩
  replace HBW := Lib.hid (bstep HBW.out hb1 (Nat.le_refl _))
  replace TA := Lib.hid (TA.out.keep hb1 (Nat.le_refl _))
  replace TB := Lib.hid (TB.out.keep hb1 (Nat.le_refl _))
  replace TR := Lib.hid (TR.out.keep hb1 (Nat.le_refl _))
  obtain ⟨x0, x1, _, _⟩ := TB.out.two
  clear ca hb1
  go_wp2_with fail
  with_reducible refine (cb _).mono ?_
  rintro e w2 ⟨rfl, hb1⟩
  replace HBW := Lib.hid (bstep HBW.out hb1 (Nat.le_refl _))
  replace TA := Lib.hid (TA.out.keep hb1 (Nat.le_refl _))
  replace TB := Lib.hid (TB.out.keep hb1 (Nat.le_refl _))
  replace TR := Lib.hid (TR.out.keep hb1 (Nat.le_refl _))
  clear x0 x1 cb hb1
  obtain ⟨x0, x1, _, _⟩ := TA.out.two
  obtain ⟨y0, y1, _, _⟩ := TB.out.two
  obtain ⟨z0, z1, z2, z3⟩ := TR.out.two
  go_wp2_with fail
  exact bodyPost_ret (v := .tuple #[.agg #[.int .i64 0, .int .i64 0], .int .i64 10]) (by simp [results, Tryd.results28, go_sem, z0, z1]) rfl ⟨rfl, by first | exact HBW.out | exact below_set2 HBW.out (by omega) _ _⟩


def refmulV (na da nb db : Int) : Value := if rightB na da && rightB nb db then refV (fracI (na * nb) (da.natAbs * db.natAbs)) else refargV
def refzeroV : Value := .tuple #[.agg #[.int .i64 0, .int .i64 0], .int .i64 10]
def refdivV (na da nb db : Int) : Value :=
  if rightB na da && rightB nb db then (if nb = 0 then refzeroV else refV (fracI (if nb < 0 then -(na * db) else na * db) (da.natAbs * nb.natAbs))) else refargV
theorem refadd_any (na da nb db : Int) (h1 : In64 na) (h2 : In64 da) (h3 : In64 nb) (h4 : In64 db) (w : World) :
    Calls Tryd.prog 25 #[.agg #[.int .i64 na, .int .i64 da], .agg #[.int .i64 nb, .int .i64 db]] w fun e w' => e = .returned (refsumV na da nb db false) ∧ Below w.heap.size w w' := by
  unfold refsumV
  cases ha : rightB na da
  · exact refadd_bad na da nb db h1 h2 h3 h4 (.inl ha) w
  · cases hb : rightB nb db
    · exact refadd_bad na da nb db h1 h2 h3 h4 (.inr hb) w
    · exact refadd_ok na da nb db ((rightB_iff na da h1 h2).1 ha) ((rightB_iff nb db h3 h4).1 hb) w
theorem refsub_any (na da nb db : Int) (h1 : In64 na) (h2 : In64 da) (h3 : In64 nb) (h4 : In64 db) (w : World) :
    Calls Tryd.prog 26 #[.agg #[.int .i64 na, .int .i64 da], .agg #[.int .i64 nb, .int .i64 db]] w fun e w' => e = .returned (refsumV na da nb db true) ∧ Below w.heap.size w w' := by
  unfold refsumV
  cases ha : rightB na da
  · exact refsub_bad na da nb db h1 h2 h3 h4 (.inl ha) w
  · cases hb : rightB nb db
    · exact refsub_bad na da nb db h1 h2 h3 h4 (.inr hb) w
    · exact refsub_ok na da nb db ((rightB_iff na da h1 h2).1 ha) ((rightB_iff nb db h3 h4).1 hb) w
theorem refmul_any (na da nb db : Int) (h1 : In64 na) (h2 : In64 da) (h3 : In64 nb) (h4 : In64 db) (w : World) :
    Calls Tryd.prog 27 #[.agg #[.int .i64 na, .int .i64 da], .agg #[.int .i64 nb, .int .i64 db]] w fun e w' => e = .returned (refmulV na da nb db) ∧ Below w.heap.size w w' := by
  unfold refmulV
  cases ha : rightB na da
  · exact refmul_bad na da nb db h1 h2 h3 h4 (.inl ha) w
  · cases hb : rightB nb db
    · exact refmul_bad na da nb db h1 h2 h3 h4 (.inr hb) w
    · exact refmul_ok na da nb db ((rightB_iff na da h1 h2).1 ha) ((rightB_iff nb db h3 h4).1 hb) w
theorem refdiv_any (na da nb db : Int) (h1 : In64 na) (h2 : In64 da) (h3 : In64 nb) (h4 : In64 db) (w : World) :
    Calls Tryd.prog 28 #[.agg #[.int .i64 na, .int .i64 da], .agg #[.int .i64 nb, .int .i64 db]] w fun e w' => e = .returned (refdivV na da nb db) ∧ Below w.heap.size w w' := by
  unfold refdivV
  cases ha : rightB na da
  · exact refdiv_bad na da nb db h1 h2 h3 h4 (.inl ha) w
  · cases hb : rightB nb db
    · exact refdiv_bad na da nb db h1 h2 h3 h4 (.inr hb) w
    · rw [Bool.and_self, if_pos rfl]
      by_cases h0 : nb = 0
      · rw [if_pos h0]
        exact refdivz_ok na da nb db ((rightB_iff na da h1 h2).1 ha) ((rightB_iff nb db h3 h4).1 hb) h0 w
      · rw [if_neg h0]
        exact refdiv_ok na da nb db ((rightB_iff na da h1 h2).1 ha) ((rightB_iff nb db h3 h4).1 hb) h0 w
end Go.Proofs.YtaipghojggiopaaDoor
