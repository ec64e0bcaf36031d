/-
  What holding fractions against each other comes to. (No walk here.)
-/
import Derived.Test.YtajebceanonalaaGreatDoorHolds
import Derived.Test.YtajebceanonalaaGreatDoorRatS
import Derived.Test.YtajebceanonalaaGreatDoorIsErr

namespace Go.Proofs.YtajebceanonalaaGreatDoor
set_option linter.unusedVariables false
open Go.RowKit

/-- the program's answer and the reference's are the same fraction, and the error is the one whose number is told -/
def SameV (P R : Value) : Prop := ∃ (x y : Int) (e : Value) (k : Int), P = .tuple #[.agg #[.int .i64 x, .int .i64 y], e] ∧ R = .tuple #[.agg #[.int .i64 x, .int .i64 y], .int .i64 k] ∧
  (∀ w, LaidT w → Calls Tryz.prog 30 #[e, .int .i64 k] w fun e w' => e = .returned (.bool true) ∧ Below w.heap.size w w')
theorem sameV_err (m : Int) (h1 : 1 ≤ m) (h2 : m ≤ 26) : SameV (.tuple #[.agg #[.int .i64 0, .int .i64 0], errV m]) (.tuple #[.agg #[.int .i64 0, .int .i64 0], .int .i64 m]) :=
  ⟨0, 0, _, m, rfl, rfl, fun w hg => by simpa using plain_errno m m h1 h2 w hg⟩
theorem sameV_frac (F : Option (Int × Int)) : SameV (ratV F) (refV F) := by
  cases F with
  | none => exact ⟨0, 0, _, 9, rfl, rfl, fun w hg => by simpa using plain_errno 9 9 (by omega) (by omega) w hg⟩
  | some p => exact ⟨p.1, p.2, _, 0, rfl, rfl, fun w hg => by simpa using plain_nil 0 w⟩
theorem sameV_sum (na da nb db : Int) (less : Bool) : SameV (sumV na da nb db less) (refsumV na da nb db less) := by
  unfold sumV refsumV
  split
  · exact sameV_frac _
  · exact sameV_err 1 (by omega) (by omega)
theorem sameV_mul (na da nb db : Int) : SameV (mulV na da nb db) (refmulV na da nb db) := by
  unfold mulV refmulV
  split
  · exact sameV_frac _
  · exact sameV_err 1 (by omega) (by omega)
theorem sameV_div (na da nb db : Int) : SameV (divV na da nb db) (refdivV na da nb db) := by
  unfold divV refdivV
  split
  · split
    · exact sameV_err 10 (by omega) (by omega)
    · exact sameV_frac _
  · exact sameV_err 1 (by omega) (by omega)

set_option maxRecDepth 100000 in
set_option maxHeartbeats 4000000 in
theorem ratsums_any (na da nb db : Int) (h1 : In64 na) (h2 : In64 da) (h3 : In64 nb) (h4 : In64 db) (w : World) (hg : LaidT w) :
    Calls Tryz.prog 39 #[.agg #[.int .i64 na, .int .i64 da], .agg #[.int .i64 nb, .int .i64 db]] w fun e w' => e = .returned (.bool true) ∧ Below w.heap.size w w' := by
  have c1 := add_any na da nb db h1 h2 h3 h4
  have c2 := sub_any na da nb db h1 h2 h3 h4
  have c3 := mul_any na da nb db h1 h2 h3 h4
  have c4 := div_any na da nb db h1 h2 h3 h4
  have c5 := refadd_any na da nb db h1 h2 h3 h4
  have c6 := refsub_any na da nb db h1 h2 h3 h4
  have c7 := refmul_any na da nb db h1 h2 h3 h4
  have c8 := refdiv_any na da nb db h1 h2 h3 h4
  obtain ⟨px, py, pe, pk, e1, e2, pc⟩ := sameV_sum na da nb db false
  obtain ⟨qx, qy, qe, qk, e3, e4, qc⟩ := sameV_sum na da nb db true
  obtain ⟨rx, ry, re, rk, e5, e6, rc⟩ := sameV_mul na da nb db
  obtain ⟨sx, sy, se, sk, e7, e8, sc⟩ := sameV_div na da nb db
  rw [e1] at c1
  rw [e3] at c2
  rw [e5] at c3
  rw [e7] at c4
  rw [e2] at c5
  rw [e4] at c6
  rw [e6] at c7
  rw [e8] at c8
  clear e1 e2 e3 e4 e5 e6 e7 e8
  have r1 := right_any na da h1 h2
  have r2 := refright_any na da h1 h2
  obtain ⟨ta, tb, hsz, hbw⟩ := box2 w #[.int .i64 na, .int .i64 da] #[.int .i64 nb, .int .i64 db] 23 23
  have TA := Lib.hid ta
  have TB := Lib.hid tb
  have HB := Lib.hid hbw
  have HG := Lib.hid (LaidT.keep hg hbw)
  clear ta tb hsz hbw hg h1 h2 h3 h4
  go_enter Tryz.func39, Tryz.ntmps39
  go_wp2_with fail
  with_reducible refine (c1 _).mono ?_
  rintro e w1 ⟨rfl, hb⟩
  replace TA := Lib.hid (TA.out.keep hb (Nat.le_refl _))
  replace TB := Lib.hid (TB.out.keep hb (Nat.le_refl _))
  replace HG := Lib.hid (LaidT.keep HG.out hb)
  replace HB := Lib.hid (bstep HB.out hb (Nat.le_refl _))
  clear hb c1
  obtain ⟨t1, _, hb⟩ := box1 w1 #[.int .i64 px, .int .i64 py] 23
  have T1 := Lib.hid t1
  replace TA := Lib.hid (TA.out.keep hb (Nat.le_refl _))
  replace TB := Lib.hid (TB.out.keep hb (Nat.le_refl _))
  replace HG := Lib.hid (LaidT.keep HG.out hb)
  replace HB := Lib.hid (bstep HB.out hb (Nat.le_refl _))
  clear t1 hb
  obtain ⟨a0, a1, _, _⟩ := TA.out.two
  obtain ⟨b0, b1, _, _⟩ := TB.out.two
  go_wp2_with fail
  clear a0 a1 b0 b1
  with_reducible refine (c2 _).mono ?_
  rintro e w2 ⟨rfl, hb⟩
  replace TA := Lib.hid (TA.out.keep hb (Nat.le_refl _))
  replace TB := Lib.hid (TB.out.keep hb (Nat.le_refl _))
  replace HG := Lib.hid (LaidT.keep HG.out hb)
  replace HB := Lib.hid (bstep HB.out hb (Nat.le_refl _))
  replace T1 := Lib.hid (T1.out.keep hb (Nat.le_refl _))
  clear hb c2
  obtain ⟨t2, _, hb⟩ := box1 w2 #[.int .i64 qx, .int .i64 qy] 23
  have T2 := Lib.hid t2
  replace TA := Lib.hid (TA.out.keep hb (Nat.le_refl _))
  replace TB := Lib.hid (TB.out.keep hb (Nat.le_refl _))
  replace HG := Lib.hid (LaidT.keep HG.out hb)
  replace HB := Lib.hid (bstep HB.out hb (Nat.le_refl _))
  replace T1 := Lib.hid (T1.out.keep hb (Nat.le_refl _))
  clear t2 hb
  obtain ⟨a0, a1, _, _⟩ := TA.out.two
  obtain ⟨b0, b1, _, _⟩ := TB.out.two
  go_wp2_with fail
  clear a0 a1 b0 b1
  with_reducible refine (c3 _).mono ?_
  rintro e w3 ⟨rfl, hb⟩
  replace TA := Lib.hid (TA.out.keep hb (Nat.le_refl _))
  replace TB := Lib.hid (TB.out.keep hb (Nat.le_refl _))
  replace HG := Lib.hid (LaidT.keep HG.out hb)
  replace HB := Lib.hid (bstep HB.out hb (Nat.le_refl _))
  replace T1 := Lib.hid (T1.out.keep hb (Nat.le_refl _))
  replace T2 := Lib.hid (T2.out.keep hb (Nat.le_refl _))
  clear hb c3
  obtain ⟨t3, _, hb⟩ := box1 w3 #[.int .i64 rx, .int .i64 ry] 23
  have T3 := Lib.hid t3
  replace TA := Lib.hid (TA.out.keep hb (Nat.le_refl _))
  replace TB := Lib.hid (TB.out.keep hb (Nat.le_refl _))
  replace HG := Lib.hid (LaidT.keep HG.out hb)
  replace HB := Lib.hid (bstep HB.out hb (Nat.le_refl _))
  replace T1 := Lib.hid (T1.out.keep hb (Nat.le_refl _))
  replace T2 := Lib.hid (T2.out.keep hb (Nat.le_refl _))
  clear t3 hb
  obtain ⟨a0, a1, _, _⟩ := TA.out.two
  obtain ⟨b0, b1, _, _⟩ := TB.out.two
  go_wp2_with fail
  clear a0 a1 b0 b1
  with_reducible refine (c4 _).mono ?_
  rintro e w4 ⟨rfl, hb⟩
  replace TA := Lib.hid (TA.out.keep hb (Nat.le_refl _))
  replace TB := Lib.hid (TB.out.keep hb (Nat.le_refl _))
  replace HG := Lib.hid (LaidT.keep HG.out hb)
  replace HB := Lib.hid (bstep HB.out hb (Nat.le_refl _))
  replace T1 := Lib.hid (T1.out.keep hb (Nat.le_refl _))
  replace T2 := Lib.hid (T2.out.keep hb (Nat.le_refl _))
  replace T3 := Lib.hid (T3.out.keep hb (Nat.le_refl _))
  clear hb c4
  obtain ⟨t4, _, hb⟩ := box1 w4 #[.int .i64 sx, .int .i64 sy] 23
  have T4 := Lib.hid t4
  replace TA := Lib.hid (TA.out.keep hb (Nat.le_refl _))
  replace TB := Lib.hid (TB.out.keep hb (Nat.le_refl _))
  replace HG := Lib.hid (LaidT.keep HG.out hb)
  replace HB := Lib.hid (bstep HB.out hb (Nat.le_refl _))
  replace T1 := Lib.hid (T1.out.keep hb (Nat.le_refl _))
  replace T2 := Lib.hid (T2.out.keep hb (Nat.le_refl _))
  replace T3 := Lib.hid (T3.out.keep hb (Nat.le_refl _))
  clear t4 hb
  obtain ⟨a0, a1, _, _⟩ := TA.out.two
  obtain ⟨b0, b1, _, _⟩ := TB.out.two
  go_wp2_with fail
  clear a0 a1 b0 b1
  with_reducible refine (c5 _).mono ?_
  rintro e w5 ⟨rfl, hb⟩
  replace TA := Lib.hid (TA.out.keep hb (Nat.le_refl _))
  replace TB := Lib.hid (TB.out.keep hb (Nat.le_refl _))
  replace HG := Lib.hid (LaidT.keep HG.out hb)
  replace HB := Lib.hid (bstep HB.out hb (Nat.le_refl _))
  replace T1 := Lib.hid (T1.out.keep hb (Nat.le_refl _))
  replace T2 := Lib.hid (T2.out.keep hb (Nat.le_refl _))
  replace T3 := Lib.hid (T3.out.keep hb (Nat.le_refl _))
  replace T4 := Lib.hid (T4.out.keep hb (Nat.le_refl _))
  clear hb c5
  obtain ⟨t5, _, hb⟩ := box1 w5 #[.int .i64 px, .int .i64 py] 23
  have T5 := Lib.hid t5
  replace TA := Lib.hid (TA.out.keep hb (Nat.le_refl _))
  replace TB := Lib.hid (TB.out.keep hb (Nat.le_refl _))
  replace HG := Lib.hid (LaidT.keep HG.out hb)
  replace HB := Lib.hid (bstep HB.out hb (Nat.le_refl _))
  replace T1 := Lib.hid (T1.out.keep hb (Nat.le_refl _))
  replace T2 := Lib.hid (T2.out.keep hb (Nat.le_refl _))
  replace T3 := Lib.hid (T3.out.keep hb (Nat.le_refl _))
  replace T4 := Lib.hid (T4.out.keep hb (Nat.le_refl _))
  clear t5 hb
  obtain ⟨a0, a1, _, _⟩ := TA.out.two
  obtain ⟨b0, b1, _, _⟩ := TB.out.two
  go_wp2_with fail
  clear a0 a1 b0 b1
  with_reducible refine (c6 _).mono ?_
  rintro e w6 ⟨rfl, hb⟩
  replace TA := Lib.hid (TA.out.keep hb (Nat.le_refl _))
  replace TB := Lib.hid (TB.out.keep hb (Nat.le_refl _))
  replace HG := Lib.hid (LaidT.keep HG.out hb)
  replace HB := Lib.hid (bstep HB.out hb (Nat.le_refl _))
  replace T1 := Lib.hid (T1.out.keep hb (Nat.le_refl _))
  replace T2 := Lib.hid (T2.out.keep hb (Nat.le_refl _))
  replace T3 := Lib.hid (T3.out.keep hb (Nat.le_refl _))
  replace T4 := Lib.hid (T4.out.keep hb (Nat.le_refl _))
  replace T5 := Lib.hid (T5.out.keep hb (Nat.le_refl _))
  clear hb c6
  obtain ⟨t6, _, hb⟩ := box1 w6 #[.int .i64 qx, .int .i64 qy] 23
  have T6 := Lib.hid t6
  replace TA := Lib.hid (TA.out.keep hb (Nat.le_refl _))
  replace TB := Lib.hid (TB.out.keep hb (Nat.le_refl _))
  replace HG := Lib.hid (LaidT.keep HG.out hb)
  replace HB := Lib.hid (bstep HB.out hb (Nat.le_refl _))
  replace T1 := Lib.hid (T1.out.keep hb (Nat.le_refl _))
  replace T2 := Lib.hid (T2.out.keep hb (Nat.le_refl _))
  replace T3 := Lib.hid (T3.out.keep hb (Nat.le_refl _))
  replace T4 := Lib.hid (T4.out.keep hb (Nat.le_refl _))
  replace T5 := Lib.hid (T5.out.keep hb (Nat.le_refl _))
  clear t6 hb
  obtain ⟨a0, a1, _, _⟩ := TA.out.two
  obtain ⟨b0, b1, _, _⟩ := TB.out.two
  go_wp2_with fail
  clear a0 a1 b0 b1
  with_reducible refine (c7 _).mono ?_
  rintro e w7 ⟨rfl, hb⟩
  replace TA := Lib.hid (TA.out.keep hb (Nat.le_refl _))
  replace TB := Lib.hid (TB.out.keep hb (Nat.le_refl _))
  replace HG := Lib.hid (LaidT.keep HG.out hb)
  replace HB := Lib.hid (bstep HB.out hb (Nat.le_refl _))
  replace T1 := Lib.hid (T1.out.keep hb (Nat.le_refl _))
  replace T2 := Lib.hid (T2.out.keep hb (Nat.le_refl _))
  replace T3 := Lib.hid (T3.out.keep hb (Nat.le_refl _))
  replace T4 := Lib.hid (T4.out.keep hb (Nat.le_refl _))
  replace T5 := Lib.hid (T5.out.keep hb (Nat.le_refl _))
  replace T6 := Lib.hid (T6.out.keep hb (Nat.le_refl _))
  clear hb c7
  obtain ⟨t7, _, hb⟩ := box1 w7 #[.int .i64 rx, .int .i64 ry] 23
  have T7 := Lib.hid t7
  replace TA := Lib.hid (TA.out.keep hb (Nat.le_refl _))
  replace TB := Lib.hid (TB.out.keep hb (Nat.le_refl _))
  replace HG := Lib.hid (LaidT.keep HG.out hb)
  replace HB := Lib.hid (bstep HB.out hb (Nat.le_refl _))
  replace T1 := Lib.hid (T1.out.keep hb (Nat.le_refl _))
  replace T2 := Lib.hid (T2.out.keep hb (Nat.le_refl _))
  replace T3 := Lib.hid (T3.out.keep hb (Nat.le_refl _))
  replace T4 := Lib.hid (T4.out.keep hb (Nat.le_refl _))
  replace T5 := Lib.hid (T5.out.keep hb (Nat.le_refl _))
  replace T6 := Lib.hid (T6.out.keep hb (Nat.le_refl _))
  clear t7 hb
  obtain ⟨a0, a1, _, _⟩ := TA.out.two
  obtain ⟨b0, b1, _, _⟩ := TB.out.two
  go_wp2_with fail
  clear a0 a1 b0 b1
  with_reducible refine (c8 _).mono ?_
  rintro e w8 ⟨rfl, hb⟩
  replace TA := Lib.hid (TA.out.keep hb (Nat.le_refl _))
  replace TB := Lib.hid (TB.out.keep hb (Nat.le_refl _))
  replace HG := Lib.hid (LaidT.keep HG.out hb)
  replace HB := Lib.hid (bstep HB.out hb (Nat.le_refl _))
  replace T1 := Lib.hid (T1.out.keep hb (Nat.le_refl _))
  replace T2 := Lib.hid (T2.out.keep hb (Nat.le_refl _))
  replace T3 := Lib.hid (T3.out.keep hb (Nat.le_refl _))
  replace T4 := Lib.hid (T4.out.keep hb (Nat.le_refl _))
  replace T5 := Lib.hid (T5.out.keep hb (Nat.le_refl _))
  replace T6 := Lib.hid (T6.out.keep hb (Nat.le_refl _))
  replace T7 := Lib.hid (T7.out.keep hb (Nat.le_refl _))
  clear hb c8
  obtain ⟨t8, _, hb⟩ := box1 w8 #[.int .i64 sx, .int .i64 sy] 23
  have T8 := Lib.hid t8
  replace TA := Lib.hid (TA.out.keep hb (Nat.le_refl _))
  replace TB := Lib.hid (TB.out.keep hb (Nat.le_refl _))
  replace HG := Lib.hid (LaidT.keep HG.out hb)
  replace HB := Lib.hid (bstep HB.out hb (Nat.le_refl _))
  replace T1 := Lib.hid (T1.out.keep hb (Nat.le_refl _))
  replace T2 := Lib.hid (T2.out.keep hb (Nat.le_refl _))
  replace T3 := Lib.hid (T3.out.keep hb (Nat.le_refl _))
  replace T4 := Lib.hid (T4.out.keep hb (Nat.le_refl _))
  replace T5 := Lib.hid (T5.out.keep hb (Nat.le_refl _))
  replace T6 := Lib.hid (T6.out.keep hb (Nat.le_refl _))
  replace T7 := Lib.hid (T7.out.keep hb (Nat.le_refl _))
  clear t8 hb
  obtain ⟨a0, a1, _, _⟩ := TA.out.two
  obtain ⟨t10, t11, _, _⟩ := T1.out.two
  obtain ⟨t20, t21, _, _⟩ := T2.out.two
  obtain ⟨t30, t31, _, _⟩ := T3.out.two
  obtain ⟨t40, t41, _, _⟩ := T4.out.two
  obtain ⟨t50, t51, _, _⟩ := T5.out.two
  obtain ⟨t60, t61, _, _⟩ := T6.out.two
  obtain ⟨t70, t71, _, _⟩ := T7.out.two
  obtain ⟨t80, t81, _, _⟩ := T8.out.two
  go_wp2_with fail
  generalize w8.alloc (.cells #[.int .i64 sx, .int .i64 sy] 23) = W at *
  have l0 := fun x : Later W => Later.cell a0 x
  have l1 := fun x : Later W => Later.cell a1 x
  have m10 := fun x : Later W => Later.cell t10 x
  have m11 := fun x : Later W => Later.cell t11 x
  have m20 := fun x : Later W => Later.cell t20 x
  have m21 := fun x : Later W => Later.cell t21 x
  have m30 := fun x : Later W => Later.cell t30 x
  have m31 := fun x : Later W => Later.cell t31 x
  have m40 := fun x : Later W => Later.cell t40 x
  have m41 := fun x : Later W => Later.cell t41 x
  have m50 := fun x : Later W => Later.cell t50 x
  have m51 := fun x : Later W => Later.cell t51 x
  have m60 := fun x : Later W => Later.cell t60 x
  have m61 := fun x : Later W => Later.cell t61 x
  have m70 := fun x : Later W => Later.cell t70 x
  have m71 := fun x : Later W => Later.cell t71 x
  have m80 := fun x : Later W => Later.cell t80 x
  have m81 := fun x : Later W => Later.cell t81 x
  have ip := fun x : Later W => is_same_any px py pe pk true x.w (fun w' hb => pc w' (LaidT.keep HG.out (bstep x.below hb (Nat.le_refl _))))
  have iq := fun x : Later W => is_same_any qx qy qe qk true x.w (fun w' hb => qc w' (LaidT.keep HG.out (bstep x.below hb (Nat.le_refl _))))
  have ir := fun x : Later W => is_same_any rx ry re rk true x.w (fun w' hb => rc w' (LaidT.keep HG.out (bstep x.below hb (Nat.le_refl _))))
  have is := fun x : Later W => is_same_any sx sy se sk true x.w (fun w' hb => sc w' (LaidT.keep HG.out (bstep x.below hb (Nat.le_refl _))))
  refine wp_region_later0 (by kernel_rfl) (by kernel_rfl) ?_
  repeat (go_big_quiet_step ((first | (go_at_call 8; with_reducible exact Later.made (ip _)) | (go_at_call 8; with_reducible exact Later.made (iq _)) | (go_at_call 8; with_reducible exact Later.made (ir _)) | (go_at_call 8; with_reducible exact Later.made (is _)) | (go_at_call 11; with_reducible exact Later.made (r1 _)) | (go_at_call 78; with_reducible exact Later.made (r2 _)))))
  refine wpQuiet_nil ?_
  rintro _ ⟨x, rfl⟩
  have HB5 := Lib.hid (bstep HB.out x.below (Nat.le_refl _))
  generalize x.w = w9 at *
  go_wp2_with fail
  go_ret
  exact ⟨rfl, HB5.out⟩
end Go.Proofs.YtajebceanonalaaGreatDoor

namespace Go.Proofs.YtajebceanonalaaGreatDoor
set_option linter.unusedVariables false
open Go.RowKit

theorem fracI_comm {X Y : Int} {D E : Nat} (h1 : X = Y) (h2 : D = E) : fracI X D = fracI Y E := by rw [h1, h2]
theorem rightP_in {n d : Int} (h : RightP n d) : In64 n ∧ In64 d := ⟨⟨h.2.2.1, h.2.2.2.1⟩, ⟨by have := h.1; omega, h.2.1⟩⟩
theorem rightB_of {n d : Int} (h : RightP n d) : rightB n d = true := (rightB_iff n d (rightP_in h).1 (rightP_in h).2).2 h
theorem natAbs_of {d : Int} (h : 1 ≤ d) : (d.natAbs : Int) = d := by omega

/-- a sum that fits is taken back by a difference; it doesn't ask which comes first -/
theorem add_cases (na da nb db : Int) (ha : RightP na da) (hb : RightP nb db) :
    (∃ n d, RightP n d ∧ sumV na da nb db false = .tuple #[.agg #[.int .i64 n, .int .i64 d], .nilIface] ∧ sumV nb db na da false = .tuple #[.agg #[.int .i64 n, .int .i64 d], .nilIface] ∧
      sumV n d nb db true = .tuple #[.agg #[.int .i64 na, .int .i64 da], .nilIface]) ∨
    (sumV na da nb db false = .tuple #[.agg #[.int .i64 0, .int .i64 0], errV 9] ∧ sumV nb db na da false = .tuple #[.agg #[.int .i64 0, .int .i64 0], errV 9]) := by
  have e1 : sumV na da nb db false = ratV (fracI (na * db + nb * da) (da.natAbs * db.natAbs)) := by
    unfold sumV; rw [rightB_of ha, rightB_of hb]; rfl
  have e2 : sumV nb db na da false = ratV (fracI (na * db + nb * da) (da.natAbs * db.natAbs)) := by
    unfold sumV; rw [rightB_of ha, rightB_of hb]
    exact congrArg ratV (fracI_comm (Int.add_comm _ _) (Nat.mul_comm _ _))
  rw [e1, e2]
  have hp : 0 < da.natAbs * db.natAbs := Nat.mul_pos (by have := ha.1; omega) (by have := hb.1; omega)
  cases hF : fracI (na * db + nb * da) (da.natAbs * db.natAbs) with
  | none => exact .inr ⟨rfl, rfl⟩
  | some x =>
    obtain ⟨n, d⟩ := x
    obtain ⟨hr, he⟩ := (fracI_iff _ _ hp n d).1 hF
    refine .inl ⟨n, d, hr, rfl, rfl, ?_⟩
    unfold sumV
    rw [rightB_of hr, rightB_of hb]
    have hp2 : 0 < d.natAbs * db.natAbs := Nat.mul_pos (by have := hr.1; omega) (by have := hb.1; omega)
    have : fracI (n * db + -nb * d) (d.natAbs * db.natAbs) = some (na, da) := by
      refine (fracI_iff _ _ hp2 na da).2 ⟨ha, ?_⟩
      rw [Int.natCast_mul, natAbs_of hr.1, natAbs_of hb.1]
      rw [Int.natCast_mul, natAbs_of ha.1, natAbs_of hb.1] at he
      have e3 : (n * db + -nb * d) * da = n * (da * db) - nb * da * d := by
        rw [Int.add_mul, Int.neg_mul, Int.neg_mul, ← Int.sub_eq_add_neg, Int.mul_assoc n, Int.mul_comm db, Int.mul_assoc nb d, Int.mul_comm d da, ← Int.mul_assoc nb]
      rw [e3, he, Int.add_mul, Int.mul_assoc na db, Int.mul_comm db d]
      omega
    simp only [Bool.and_self, if_true]
    rw [this]
    rfl

theorem mul_cases (na da nb db : Int) (ha : RightP na da) (hb : RightP nb db) :
    (∃ n d, RightP n d ∧ mulV na da nb db = .tuple #[.agg #[.int .i64 n, .int .i64 d], .nilIface] ∧ mulV nb db na da = .tuple #[.agg #[.int .i64 n, .int .i64 d], .nilIface] ∧
      (nb ≠ 0 → divV n d nb db = .tuple #[.agg #[.int .i64 na, .int .i64 da], .nilIface])) ∨
    (mulV na da nb db = .tuple #[.agg #[.int .i64 0, .int .i64 0], errV 9] ∧ mulV nb db na da = .tuple #[.agg #[.int .i64 0, .int .i64 0], errV 9]) := by
  have e1 : mulV na da nb db = ratV (fracI (na * nb) (da.natAbs * db.natAbs)) := by
    unfold mulV; rw [rightB_of ha, rightB_of hb]; rfl
  have e2 : mulV nb db na da = ratV (fracI (na * nb) (da.natAbs * db.natAbs)) := by
    unfold mulV; rw [rightB_of ha, rightB_of hb]
    exact congrArg ratV (fracI_comm (Int.mul_comm _ _) (Nat.mul_comm _ _))
  rw [e1, e2]
  have hp : 0 < da.natAbs * db.natAbs := Nat.mul_pos (by have := ha.1; omega) (by have := hb.1; omega)
  cases hF : fracI (na * nb) (da.natAbs * db.natAbs) with
  | none => exact .inr ⟨rfl, rfl⟩
  | some x =>
    obtain ⟨n, d⟩ := x
    obtain ⟨hr, he⟩ := (fracI_iff _ _ hp n d).1 hF
    refine .inl ⟨n, d, hr, rfl, rfl, fun h0 => ?_⟩
    unfold divV
    rw [rightB_of hr, rightB_of hb]
    have hp2 : 0 < d.natAbs * nb.natAbs := Nat.mul_pos (by have := hr.1; omega) (by omega)
    have : fracI (if nb < 0 then -(n * db) else n * db) (d.natAbs * nb.natAbs) = some (na, da) := by
      refine (fracI_iff _ _ hp2 na da).2 ⟨ha, ?_⟩
      rw [Int.natCast_mul, natAbs_of ha.1, natAbs_of hb.1] at he
      rw [Int.natCast_mul, natAbs_of hr.1]
      have e4 : n * db * da = na * nb * d := by rw [Int.mul_assoc, Int.mul_comm db, he]
      by_cases hn : nb < 0
      · rw [if_pos hn, Int.neg_mul, e4, show (nb.natAbs : Int) = -nb by omega, Int.mul_neg, Int.mul_neg, Int.mul_comm d nb, ← Int.mul_assoc]
      · rw [if_neg hn, e4, show (nb.natAbs : Int) = nb by omega, Int.mul_comm d nb, ← Int.mul_assoc]
    simp only [Bool.and_self, if_true]
    rw [if_neg h0, this]
    rfl
end Go.Proofs.YtajebceanonalaaGreatDoor

namespace Go.Proofs.YtajebceanonalaaGreatDoor
set_option linter.unusedVariables false
open Go.RowKit

theorem cmpI_vals (na da nb db : Int) : cmpI na da nb db = -1 ∨ cmpI na da nb db = 0 ∨ cmpI na da nb db = 1 := by
  unfold cmpI; split
  · exact .inl rfl
  · split
    · exact .inr (.inl rfl)
    · exact .inr (.inr rfl)
theorem cmpI_lt (na da nb db : Int) : cmpI na da nb db < 0 ↔ na * db < nb * da := by
  unfold cmpI; split
  · simp [*]
  · split <;> simp [*]
theorem cmpI_zero (na da nb db : Int) : cmpI na da nb db = 0 ↔ na * db = nb * da := by
  unfold cmpI; split
  · constructor
    · intro h; omega
    · intro h; omega
  · split <;> simp [*]
theorem cmpI_back (na da nb db : Int) : cmpI nb db na da = -cmpI na da nb db := by
  unfold cmpI; repeat' split
  all_goals omega
theorem cmpI_same (na da nb db : Int) (ha : RightP na da) (hb : RightP nb db) : cmpI na da nb db = 0 ↔ (na = nb ∧ da = db) := by
  rw [cmpI_zero]
  constructor
  · intro h
    have hd : 0 < db.natAbs := by have := hb.1; omega
    have e1 : fracI nb db.natAbs = some (nb, db) := (fracI_iff _ _ hd _ _).2 ⟨hb, by rw [natAbs_of hb.1]⟩
    have e2 : fracI nb db.natAbs = some (na, da) := (fracI_iff _ _ hd _ _).2 ⟨ha, by rw [natAbs_of hb.1]; exact h⟩
    rw [e1] at e2
    simp only [Option.some.injEq, Prod.mk.injEq] at e2
    exact ⟨e2.1.symm, e2.2.symm⟩
  · rintro ⟨rfl, rfl⟩; rfl
theorem cmpI_le (na da nb db : Int) : cmpI na da nb db ≤ 0 ↔ na * db ≤ nb * da := by
  have h1 := cmpI_lt na da nb db
  have h2 := cmpI_zero na da nb db
  have h3 := cmpI_vals na da nb db
  omega

/-- an order -/
theorem cmpI_trans (na da nb db nc dc : Int) (ha : 0 < da) (hb : 0 < db) (hc : 0 < dc) :
    (cmpI na da nb db ≤ 0 → cmpI nb db nc dc ≤ 0 → cmpI na da nc dc ≤ 0) ∧ (cmpI na da nb db < 0 → cmpI nb db nc dc ≤ 0 → cmpI na da nc dc < 0) ∧
    (cmpI na da nb db ≤ 0 → cmpI nb db nc dc < 0 → cmpI na da nc dc < 0) := by
  simp only [cmpI_le, cmpI_lt]
  have e1 : na * dc * db = na * db * dc := by rw [Int.mul_assoc, Int.mul_comm dc, Int.mul_assoc]
  have e2 : nb * da * dc = nb * dc * da := by rw [Int.mul_assoc, Int.mul_comm da, Int.mul_assoc]
  have e3 : nc * da * db = nc * db * da := by rw [Int.mul_assoc, Int.mul_comm da, Int.mul_assoc]
  refine ⟨fun h1 h2 => ?_, fun h1 h2 => ?_, fun h1 h2 => ?_⟩
  · have k1 := Int.mul_le_mul_of_nonneg_right h1 (show 0 ≤ dc by omega)
    have k2 := Int.mul_le_mul_of_nonneg_right h2 (show 0 ≤ da by omega)
    exact Int.le_of_mul_le_mul_right (show na * dc * db ≤ nc * da * db by omega) hb
  · have k1 := Int.mul_lt_mul_of_pos_right h1 hc
    have k2 := Int.mul_le_mul_of_nonneg_right h2 (show 0 ≤ da by omega)
    exact Int.lt_of_mul_lt_mul_right (show na * dc * db < nc * da * db by omega) (by omega)
  · have k1 := Int.mul_le_mul_of_nonneg_right h1 (show 0 ≤ dc by omega)
    have k2 := Int.mul_lt_mul_of_pos_right h2 ha
    exact Int.lt_of_mul_lt_mul_right (show na * dc * db < nc * da * db by omega) (by omega)

/-- a difference that fits has the sign -/
theorem sub_cases (na da nb db : Int) (ha : RightP na da) (hb : RightP nb db) :
    (∃ n d, sumV na da nb db true = .tuple #[.agg #[.int .i64 n, .int .i64 d], .nilIface] ∧ (n < 0 ↔ cmpI na da nb db < 0) ∧ (0 < n ↔ 0 < cmpI na da nb db)) ∨
    sumV na da nb db true = .tuple #[.agg #[.int .i64 0, .int .i64 0], errV 9] := by
  have e1 : sumV na da nb db true = ratV (fracI (na * db + -nb * da) (da.natAbs * db.natAbs)) := by
    unfold sumV; rw [rightB_of ha, rightB_of hb]; rfl
  rw [e1]
  have hp : 0 < da.natAbs * db.natAbs := Nat.mul_pos (by have := ha.1; omega) (by have := hb.1; omega)
  cases hF : fracI (na * db + -nb * da) (da.natAbs * db.natAbs) with
  | none => exact .inr rfl
  | some x =>
    obtain ⟨n, d⟩ := x
    obtain ⟨hr, he⟩ := (fracI_iff _ _ hp n d).1 hF
    refine .inl ⟨n, d, rfl, ?_⟩
    have k := sign_of (u := n) (v := na * db + -nb * da) (D := ((da.natAbs * db.natAbs : Nat) : Int)) (e := d) (by omega) (by have := hr.1; omega) he
    have h1 := cmpI_lt na da nb db
    have h2 := cmpI_zero na da nb db
    have h3 := cmpI_vals na da nb db
    rw [Int.neg_mul] at k
    omega
end Go.Proofs.YtajebceanonalaaGreatDoor
