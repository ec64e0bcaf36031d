/-
  The walk of RatSums.
-/
import Derived.Test.YtaipghojggiopaaDoorRefD
import Derived.Test.YtaipghojggiopaaDoorNews
namespace Go.Proofs.YtaipghojggiopaaDoor
set_option linter.unusedVariables false
open Go.RowKit

/-- the program's answer and the reference's are the same fraction, and the error is the one whose number is told -/
def SameV (P R : Value) : Prop := ∃ (x y : Int) (e : Value) (k : Int), P = .tuple #[.agg #[.int .i64 x, .int .i64 y], e] ∧ R = .tuple #[.agg #[.int .i64 x, .int .i64 y], .int .i64 k] ∧
  (∀ w, LaidT w → Calls Tryd.prog 16 #[e, .int .i64 k] w fun e w' => e = .returned (.bool true) ∧ Below w.heap.size w w')
theorem sameV_err (m : Int) (h1 : 1 ≤ m) (h2 : m ≤ 26) : SameV (.tuple #[.agg #[.int .i64 0, .int .i64 0], errV m]) (.tuple #[.agg #[.int .i64 0, .int .i64 0], .int .i64 m]) :=
  ⟨0, 0, _, m, rfl, rfl, fun w hg => by simpa using plain_errno m m h1 h2 w hg⟩
theorem sameV_frac (F : Option (Int × Int)) : SameV (ratV F) (refV F) := by
  cases F with
  | none => exact ⟨0, 0, _, 9, rfl, rfl, fun w hg => by simpa using plain_errno 9 9 (by omega) (by omega) w hg⟩
  | some p => exact ⟨p.1, p.2, _, 0, rfl, rfl, fun w hg => by simpa using plain_nil 0 w⟩
theorem sameV_sum (na da nb db : Int) (less : Bool) : SameV (sumV na da nb db less) (refsumV na da nb db less) := by
  unfold sumV refsumV
  split
  · exact sameV_frac _
  · exact sameV_err 1 (by omega) (by omega)
theorem sameV_mul (na da nb db : Int) : SameV (mulV na da nb db) (refmulV na da nb db) := by
  unfold mulV refmulV
  split
  · exact sameV_frac _
  · exact sameV_err 1 (by omega) (by omega)
theorem sameV_div (na da nb db : Int) : SameV (divV na da nb db) (refdivV na da nb db) := by
  unfold divV refdivV
  split
  · split
    · exact sameV_err 10 (by omega) (by omega)
    · exact sameV_frac _
  · exact sameV_err 1 (by omega) (by omega)

set_option maxRecDepth 100000 in
set_option maxHeartbeats 4000000 in
theorem ratsums_any (na da nb db : Int) (h1 : In64 na) (h2 : In64 da) (h3 : In64 nb) (h4 : In64 db) (w : World) (hg : LaidT w) :
    Calls Tryd.prog 6 #[.agg #[.int .i64 na, .int .i64 da], .agg #[.int .i64 nb, .int .i64 db]] w fun e w' => e = .returned (.bool true) ∧ Below w.heap.size w w' := by
  have c1 := add_any na da nb db h1 h2 h3 h4
  have c2 := sub_any na da nb db h1 h2 h3 h4
  have c3 := mul_any na da nb db h1 h2 h3 h4
  have c4 := div_any na da nb db h1 h2 h3 h4
  have c5 := refadd_any na da nb db h1 h2 h3 h4
  have c6 := refsub_any na da nb db h1 h2 h3 h4
  have c7 := refmul_any na da nb db h1 h2 h3 h4
  have c8 := refdiv_any na da nb db h1 h2 h3 h4
  obtain ⟨px, py, pe, pk, e1, e2, pc⟩ := sameV_sum na da nb db false
  obtain ⟨qx, qy, qe, qk, e3, e4, qc⟩ := sameV_sum na da nb db true
  obtain ⟨rx, ry, re, rk, e5, e6, rc⟩ := sameV_mul na da nb db
  obtain ⟨sx, sy, se, sk, e7, e8, sc⟩ := sameV_div na da nb db
  rw [e1] at c1
  rw [e3] at c2
  rw [e5] at c3
  rw [e7] at c4
  rw [e2] at c5
  rw [e4] at c6
  rw [e6] at c7
  rw [e8] at c8
  clear e1 e2 e3 e4 e5 e6 e7 e8
  have r1 := right_any na da h1 h2
  have r2 := refright_any na da h1 h2
  obtain ⟨ta, tb, hsz, hbw⟩ := box2 w #[.int .i64 na, .int .i64 da] #[.int .i64 nb, .int .i64 db] 23 23
  have TA := Lib.hid ta
  have TB := Lib.hid tb
  have HB := Lib.hid hbw
  have HG := Lib.hid (LaidT.keep hg hbw)
  clear ta tb hsz hbw hg h1 h2 h3 h4
  go_enter Tryd.func6, Tryd.ntmps6
  go_wp2_with fail
  with_reducible refine (c1 _).mono ?_
  rintro e w1 ⟨rfl, hb⟩
  replace TA := Lib.hid (TA.out.keep hb (Nat.le_refl _))
  replace TB := Lib.hid (TB.out.keep hb (Nat.le_refl _))
  replace HG := Lib.hid (LaidT.keep HG.out hb)
  replace HB := Lib.hid (bstep HB.out hb (Nat.le_refl _))
  clear hb c1
  obtain ⟨t1, _, hb⟩ := box1 w1 #[.int .i64 px, .int .i64 py] 23
  have T1 := Lib.hid t1
  replace TA := Lib.hid (TA.out.keep hb (Nat.le_refl _))
  replace TB := Lib.hid (TB.out.keep hb (Nat.le_refl _))
  replace HG := Lib.hid (LaidT.keep HG.out hb)
  replace HB := Lib.hid (bstep HB.out hb (Nat.le_refl _))
  clear t1 hb
  obtain ⟨a0, a1, _, _⟩ := TA.out.two
  obtain ⟨b0, b1, _, _⟩ := TB.out.two
  go_wp2_with fail
  clear a0 a1 b0 b1
  with_reducible refine (c2 _).mono ?_
  rintro e w2 ⟨rfl, hb⟩
  replace TA := Lib.hid (TA.out.keep hb (Nat.le_refl _))
  replace TB := Lib.hid (TB.out.keep hb (Nat.le_refl _))
  replace HG := Lib.hid (LaidT.keep HG.out hb)
  replace HB := Lib.hid (bstep HB.out hb (Nat.le_refl _))
  replace T1 := Lib.hid (T1.out.keep hb (Nat.le_refl _))
  clear hb c2
  obtain ⟨t2, _, hb⟩ := box1 w2 #[.int .i64 qx, .int .i64 qy] 23
  have T2 := Lib.hid t2
  replace TA := Lib.hid (TA.out.keep hb (Nat.le_refl _))
  replace TB := Lib.hid (TB.out.keep hb (Nat.le_refl _))
  replace HG := Lib.hid (LaidT.keep HG.out hb)
  replace HB := Lib.hid (bstep HB.out hb (Nat.le_refl _))
  replace T1 := Lib.hid (T1.out.keep hb (Nat.le_refl _))
  clear t2 hb
  obtain ⟨a0, a1, _, _⟩ := TA.out.two
  obtain ⟨b0, b1, _, _⟩ := TB.out.two
  go_wp2_with fail
  clear a0 a1 b0 b1
  with_reducible refine (c3 _).mono ?_
  rintro e w3 ⟨rfl, hb⟩
  replace TA := Lib.hid (TA.out.keep hb (Nat.le_refl _))
  replace TB := Lib.hid (TB.out.keep hb (Nat.le_refl _))
  replace HG := Lib.hid (LaidT.keep HG.out hb)
  replace HB := Lib.hid (bstep HB.out hb (Nat.le_refl _))
  replace T1 := Lib.hid (T1.out.keep hb (Nat.le_refl _))
  replace T2 := Lib.hid (T2.out.keep hb (Nat.le_refl _))
  clear hb c3
  obtain ⟨t3, _, hb⟩ := box1 w3 #[.int .i64 rx, .int .i64 ry] 23
  have T3 := Lib.hid t3
  replace TA := Lib.hid (TA.out.keep hb (Nat.le_refl _))
  replace TB := Lib.hid (TB.out.keep hb (Nat.le_refl _))
  replace HG := Lib.hid (LaidT.keep HG.out hb)
  replace HB := Lib.hid (bstep HB.out hb (Nat.le_refl _))
  replace T1 := Lib.hid (T1.out.keep hb (Nat.le_refl _))
  replace T2 := Lib.hid (T2.out.keep hb (Nat.le_refl _))
  clear t3 hb
  obtain ⟨a0, a1, _, _⟩ := TA.out.two
  obtain ⟨b0, b1, _, _⟩ := TB.out.two
  go_wp2_with fail
  clear a0 a1 b0 b1
  with_reducible refine (c4 _).mono ?_
  rintro e w4 ⟨rfl, hb⟩
  replace TA := Lib.hid (TA.out.keep hb (Nat.le_refl _))
  replace TB := Lib.hid (TB.out.keep hb (Nat.le_refl _))
  replace HG := Lib.hid (LaidT.keep HG.out hb)
  replace HB := Lib.hid (bstep HB.out hb (Nat.le_refl _))
  replace T1 := Lib.hid (T1.out.keep hb (Nat.le_refl _))
  replace T2 := Lib.hid (T2.out.keep hb (Nat.le_refl _))
  replace T3 := Lib.hid (T3.out.keep hb (Nat.le_refl _))
  clear hb c4
  obtain ⟨t4, _, hb⟩ := box1 w4 #[.int .i64 sx, .int .i64 sy] 23
  have T4 := Lib.hid t4
  replace TA := Lib.hid (TA.out.keep hb (Nat.le_refl _))
  replace TB := Lib.hid (TB.out.keep hb (Nat.le_refl _))
  replace HG := Lib.hid (LaidT.keep HG.out hb)
  replace HB := Lib.hid (bstep HB.out hb (Nat.le_refl _))
  replace T1 := Lib.hid (T1.out.keep hb (Nat.le_refl _))
  replace T2 := Lib.hid (T2.out.keep hb (Nat.le_refl _))
  replace T3 := Lib.hid (T3.out.keep hb (Nat.le_refl _))
  clear t4 hb
  obtain ⟨a0, a1, _, _⟩ := TA.out.two
  obtain ⟨b0, b1, _, _⟩ := TB.out.two
  go_wp2_with fail
  clear a0 a1 b0 b1
  with_reducible refine (c5 _).mono ?_
  rintro e w5 ⟨rfl, hb⟩
  replace TA := Lib.hid (TA.out.keep hb (Nat.le_refl _))
  replace TB := Lib.hid (TB.out.keep hb (Nat.le_refl _))
  replace HG := Lib.hid (LaidT.keep HG.out hb)
  replace HB := Lib.hid (bstep HB.out hb (Nat.le_refl _))
  replace T1 := Lib.hid (T1.out.keep hb (Nat.le_refl _))
  replace T2 := Lib.hid (T2.out.keep hb (Nat.le_refl _))
  replace T3 := Lib.hid (T3.out.keep hb (Nat.le_refl _))
  replace T4 := Lib.hid (T4.out.keep hb (Nat.le_refl _))
  clear hb c5
  obtain ⟨t5, _, hb⟩ := box1 w5 #[.int .i64 px, .int .i64 py] 23
  have T5 := Lib.hid t5
  replace TA := Lib.hid (TA.out.keep hb (Nat.le_refl _))
  replace TB := Lib.hid (TB.out.keep hb (Nat.le_refl _))
  replace HG := Lib.hid (LaidT.keep HG.out hb)
  replace HB := Lib.hid (bstep HB.out hb (Nat.le_refl _))
  replace T1 := Lib.hid (T1.out.keep hb (Nat.le_refl _))
  replace T2 := Lib.hid (T2.out.keep hb (Nat.le_refl _))
  replace T3 := Lib.hid (T3.out.keep hb (Nat.le_refl _))
  replace T4 := Lib.hid (T4.out.keep hb (Nat.le_refl _))
  clear t5 hb
  obtain ⟨a0, a1, _, _⟩ := TA.out.two
  obtain ⟨b0, b1, _, _⟩ := TB.out.two
  go_wp2_with fail
  clear a0 a1 b0 b1
  with_reducible refine (c6 _).mono ?_
  rintro e w6 ⟨rfl, hb⟩
  replace TA := Lib.hid (TA.out.keep hb (Nat.le_refl _))
  replace TB := Lib.hid (TB.out.keep hb (Nat.le_refl _))
  replace HG := Lib.hid (LaidT.keep HG.out hb)
  replace HB := Lib.hid (bstep HB.out hb (Nat.le_refl _))
  replace T1 := Lib.hid (T1.out.keep hb (Nat.le_refl _))
  replace T2 := Lib.hid (T2.out.keep hb (Nat.le_refl _))
  replace T3 := Lib.hid (T3.out.keep hb (Nat.le_refl _))
  replace T4 := Lib.hid (T4.out.keep hb (Nat.le_refl _))
  replace T5 := Lib.hid (T5.out.keep hb (Nat.le_refl _))
  clear hb c6
  obtain ⟨t6, _, hb⟩ := box1 w6 #[.int .i64 qx, .int .i64 qy] 23
  have T6 := Lib.hid t6
  replace TA := Lib.hid (TA.out.keep hb (Nat.le_refl _))
  replace TB := Lib.hid (TB.out.keep hb (Nat.le_refl _))
  replace HG := Lib.hid (LaidT.keep HG.out hb)
  replace HB := Lib.hid (bstep HB.out hb (Nat.le_refl _))
  replace T1 := Lib.hid (T1.out.keep hb (Nat.le_refl _))
  replace T2 := Lib.hid (T2.out.keep hb (Nat.le_refl _))
  replace T3 := Lib.hid (T3.out.keep hb (Nat.le_refl _))
  replace T4 := Lib.hid (T4.out.keep hb (Nat.le_refl _))
  replace T5 := Lib.hid (T5.out.keep hb (Nat.le_refl _))
  clear t6 hb
  obtain ⟨a0, a1, _, _⟩ := TA.out.two
  obtain ⟨b0, b1, _, _⟩ := TB.out.two
  go_wp2_with fail
  clear a0 a1 b0 b1
  with_reducible refine (c7 _).mono ?_
  rintro e w7 ⟨rfl, hb⟩
  replace TA := Lib.hid (TA.out.keep hb (Nat.le_refl _))
  replace TB := Lib.hid (TB.out.keep hb (Nat.le_refl _))
  replace HG := Lib.hid (LaidT.keep HG.out hb)
  replace HB := Lib.hid (bstep HB.out hb (Nat.le_refl _))
  replace T1 := Lib.hid (T1.out.keep hb (Nat.le_refl _))
  replace T2 := Lib.hid (T2.out.keep hb (Nat.le_refl _))
  replace T3 := Lib.hid (T3.out.keep hb (Nat.le_refl _))
  replace T4 := Lib.hid (T4.out.keep hb (Nat.le_refl _))
  replace T5 := Lib.hid (T5.out.keep hb (Nat.le_refl _))
  replace T6 := Lib.hid (T6.out.keep hb (Nat.le_refl _))
  clear hb c7
  obtain ⟨t7, _, hb⟩ := box1 w7 #[.int .i64 rx, .int .i64 ry] 23
  have T7 := Lib.hid t7
  replace TA := Lib.hid (TA.out.keep hb (Nat.le_refl _))
  replace TB := Lib.hid (TB.out.keep hb (Nat.le_refl _))
  replace HG := Lib.hid (LaidT.keep HG.out hb)
  replace HB := Lib.hid (bstep HB.out hb (Nat.le_refl _))
  replace T1 := Lib.hid (T1.out.keep hb (Nat.le_refl _))
  replace T2 := Lib.hid (T2.out.keep hb (Nat.le_refl _))
  replace T3 := Lib.hid (T3.out.keep hb (Nat.le_refl _))
  replace T4 := Lib.hid (T4.out.keep hb (Nat.le_refl _))
  replace T5 := Lib.hid (T5.out.keep hb (Nat.le_refl _))
  replace T6 := Lib.hid (T6.out.keep hb (Nat.le_refl _))
  clear t7 hb
  obtain ⟨a0, a1, _, _⟩ := TA.out.two
  obtain ⟨b0, b1, _, _⟩ := TB.out.two
  go_wp2_with fail
  clear a0 a1 b0 b1
  with_reducible refine (c8 _).mono ?_
  rintro e w8 ⟨rfl, hb⟩
  replace TA := Lib.hid (TA.out.keep hb (Nat.le_refl _))
  replace TB := Lib.hid (TB.out.keep hb (Nat.le_refl _))
  replace HG := Lib.hid (LaidT.keep HG.out hb)
  replace HB := Lib.hid (bstep HB.out hb (Nat.le_refl _))
  replace T1 := Lib.hid (T1.out.keep hb (Nat.le_refl _))
  replace T2 := Lib.hid (T2.out.keep hb (Nat.le_refl _))
  replace T3 := Lib.hid (T3.out.keep hb (Nat.le_refl _))
  replace T4 := Lib.hid (T4.out.keep hb (Nat.le_refl _))
  replace T5 := Lib.hid (T5.out.keep hb (Nat.le_refl _))
  replace T6 := Lib.hid (T6.out.keep hb (Nat.le_refl _))
  replace T7 := Lib.hid (T7.out.keep hb (Nat.le_refl _))
  clear hb c8
  obtain ⟨t8, _, hb⟩ := box1 w8 #[.int .i64 sx, .int .i64 sy] 23
  have T8 := Lib.hid t8
  replace TA := Lib.hid (TA.out.keep hb (Nat.le_refl _))
  replace TB := Lib.hid (TB.out.keep hb (Nat.le_refl _))
  replace HG := Lib.hid (LaidT.keep HG.out hb)
  replace HB := Lib.hid (bstep HB.out hb (Nat.le_refl _))
  replace T1 := Lib.hid (T1.out.keep hb (Nat.le_refl _))
  replace T2 := Lib.hid (T2.out.keep hb (Nat.le_refl _))
  replace T3 := Lib.hid (T3.out.keep hb (Nat.le_refl _))
  replace T4 := Lib.hid (T4.out.keep hb (Nat.le_refl _))
  replace T5 := Lib.hid (T5.out.keep hb (Nat.le_refl _))
  replace T6 := Lib.hid (T6.out.keep hb (Nat.le_refl _))
  replace T7 := Lib.hid (T7.out.keep hb (Nat.le_refl _))
  clear t8 hb
  obtain ⟨a0, a1, _, _⟩ := TA.out.two
  obtain ⟨t10, t11, _, _⟩ := T1.out.two
  obtain ⟨t20, t21, _, _⟩ := T2.out.two
  obtain ⟨t30, t31, _, _⟩ := T3.out.two
  obtain ⟨t40, t41, _, _⟩ := T4.out.two
  obtain ⟨t50, t51, _, _⟩ := T5.out.two
  obtain ⟨t60, t61, _, _⟩ := T6.out.two
  obtain ⟨t70, t71, _, _⟩ := T7.out.two
  obtain ⟨t80, t81, _, _⟩ := T8.out.two
  go_wp2_with fail
  generalize w8.alloc (.cells #[.int .i64 sx, .int .i64 sy] 23) = W at *
  have l0 := fun x : Later W => Later.cell a0 x
  have l1 := fun x : Later W => Later.cell a1 x
  have m10 := fun x : Later W => Later.cell t10 x
  have m11 := fun x : Later W => Later.cell t11 x
  have m20 := fun x : Later W => Later.cell t20 x
  have m21 := fun x : Later W => Later.cell t21 x
  have m30 := fun x : Later W => Later.cell t30 x
  have m31 := fun x : Later W => Later.cell t31 x
  have m40 := fun x : Later W => Later.cell t40 x
  have m41 := fun x : Later W => Later.cell t41 x
  have m50 := fun x : Later W => Later.cell t50 x
  have m51 := fun x : Later W => Later.cell t51 x
  have m60 := fun x : Later W => Later.cell t60 x
  have m61 := fun x : Later W => Later.cell t61 x
  have m70 := fun x : Later W => Later.cell t70 x
  have m71 := fun x : Later W => Later.cell t71 x
  have m80 := fun x : Later W => Later.cell t80 x
  have m81 := fun x : Later W => Later.cell t81 x
  have ip := fun x : Later W => is_same_any px py pe pk true x.w (fun w' hb => pc w' (LaidT.keep HG.out (bstep x.below hb (Nat.le_refl _))))
  have iq := fun x : Later W => is_same_any qx qy qe qk true x.w (fun w' hb => qc w' (LaidT.keep HG.out (bstep x.below hb (Nat.le_refl _))))
  have ir := fun x : Later W => is_same_any rx ry re rk true x.w (fun w' hb => rc w' (LaidT.keep HG.out (bstep x.below hb (Nat.le_refl _))))
  have is := fun x : Later W => is_same_any sx sy se sk true x.w (fun w' hb => sc w' (LaidT.keep HG.out (bstep x.below hb (Nat.le_refl _))))
  refine wp_region_later0 (by kernel_rfl) (by kernel_rfl) ?_
  repeat (go_big_quiet_step ((first | (go_at_call 9; with_reducible exact Later.made (ip _)) | (go_at_call 9; with_reducible exact Later.made (iq _)) | (go_at_call 9; with_reducible exact Later.made (ir _)) | (go_at_call 9; with_reducible exact Later.made (is _)) | (go_at_call 10; with_reducible exact Later.made (r1 _)) | (go_at_call 11; with_reducible exact Later.made (r2 _)))))
  refine wpQuiet_nil ?_
  rintro _ ⟨x, rfl⟩
  have HB5 := Lib.hid (bstep HB.out x.below (Nat.le_refl _))
  generalize x.w = w9 at *
  go_wp2_with fail
  go_ret
  exact ⟨rfl, HB5.out⟩
end Go.Proofs.YtaipghojggiopaaDoor
