/-
  The walk of RatOrders.
-/
import Derived.Test.YtajebceanonalaaGreatDoorRatV
import Derived.Test.YtajebceanonalaaGreatDoorRatU
namespace Go.Proofs.YtajebceanonalaaGreatDoor
set_option linter.unusedVariables false
open Go.RowKit

theorem rat_eql (a b c d : Int) (W : World) : (binOp .eql 23 (.agg #[.int .i64 a, .int .i64 b]) (.agg #[.int .i64 c, .int .i64 d])).run Tryz.prog W = .ok (.bool (decide (a = c ∧ b = d))) W := by
  go_simp
  by_cases h1 : a = c <;> by_cases h2 : b = d <;> simp [h1, h2]
theorem cmp_shape (na da nb db : Int) : ∃ c er, (if rightB na da && rightB nb db then cmpV (cmpI na da nb db) else argC) = .tuple #[.int .i64 c, er] := by
  split
  · exact ⟨_, _, rfl⟩
  · exact ⟨_, _, rfl⟩

set_option maxRecDepth 100000 in
set_option maxHeartbeats 8000000 in
theorem ord_bad1 (na da nb db nc dc : Int) (h1 : In64 na) (h2 : In64 da) (h3 : In64 nb) (h4 : In64 db) (h5 : In64 nc) (h6 : In64 dc) (ra : rightB na da = false) (w : World) :
    Calls Tryz.prog 42 #[.agg #[.int .i64 na, .int .i64 da], .agg #[.int .i64 nb, .int .i64 db], .agg #[.int .i64 nc, .int .i64 dc]] w fun e w' => e = .returned (.bool true) ∧ Below w.heap.size w w' := by
  have cw := works_any
  have c1 := cmp_any na da nb db h1 h2 h3 h4
  have c2 := cmp_any nb db nc dc h3 h4 h5 h6
  have c3 := cmp_any na da nc dc h1 h2 h5 h6
  have c4 := cmp_any nb db na da h3 h4 h1 h2
  have cra := right_any na da h1 h2
  have crb := right_any nb db h3 h4
  have crc := right_any nc dc h5 h6
  have cn0 := num_nil
  have cn1 := num_errno 1 (by decide) (by decide)
  rw [ra] at cra
  rw [ra] at c1
  simp only [Bool.false_and, Bool.false_eq_true, if_false, argC, errV] at c1
  obtain ⟨kc2, ec2, hkc2⟩ := cmp_shape nb db nc dc
  rw [hkc2] at c2
  clear hkc2
  rw [ra] at c3
  simp only [Bool.false_and, Bool.false_eq_true, if_false, argC, errV] at c3
  rw [ra] at c4
  simp only [Bool.and_false, Bool.false_eq_true, if_false, argC, errV] at c4
  clear ra
  obtain ⟨ta, tb, tc, hsz, hbw⟩ := box3 w #[.int .i64 na, .int .i64 da] #[.int .i64 nb, .int .i64 db] #[.int .i64 nc, .int .i64 dc] 23 23 23
  have TA := Lib.hid ta
  have TB := Lib.hid tb
  have TC := Lib.hid tc
  have HB := Lib.hid hbw
  clear ta tb tc hsz hbw
  go_enter Tryz.func42, Tryz.ntmps42
  go_wp2_with fail
  with_reducible refine (c1 _).mono ?_
  rintro e w1 ⟨rfl, hb⟩
  replace TA := Lib.hid (TA.out.keep hb (Nat.le_refl _))
  replace TB := Lib.hid (TB.out.keep hb (Nat.le_refl _))
  replace TC := Lib.hid (TC.out.keep hb (Nat.le_refl _))
  replace HB := Lib.hid (bstep HB.out hb (Nat.le_refl _))
  clear hb
  obtain ⟨x00, x01, x02, x03⟩ := TA.out.two
  obtain ⟨x10, x11, x12, x13⟩ := TB.out.two
  obtain ⟨x20, x21, x22, x23⟩ := TC.out.two
  go_wp2_with fail
  clear x00 x01 x02 x03 x10 x11 x12 x13 x20 x21 x22 x23
  with_reducible refine (c2 _).mono ?_
  rintro e w2 ⟨rfl, hb⟩
  replace TA := Lib.hid (TA.out.keep hb (Nat.le_refl _))
  replace TB := Lib.hid (TB.out.keep hb (Nat.le_refl _))
  replace TC := Lib.hid (TC.out.keep hb (Nat.le_refl _))
  replace HB := Lib.hid (bstep HB.out hb (Nat.le_refl _))
  clear hb
  obtain ⟨x00, x01, x02, x03⟩ := TA.out.two
  obtain ⟨x10, x11, x12, x13⟩ := TB.out.two
  obtain ⟨x20, x21, x22, x23⟩ := TC.out.two
  go_wp2_with fail
  clear x00 x01 x02 x03 x10 x11 x12 x13 x20 x21 x22 x23
  with_reducible refine (c3 _).mono ?_
  rintro e w3 ⟨rfl, hb⟩
  replace TA := Lib.hid (TA.out.keep hb (Nat.le_refl _))
  replace TB := Lib.hid (TB.out.keep hb (Nat.le_refl _))
  replace TC := Lib.hid (TC.out.keep hb (Nat.le_refl _))
  replace HB := Lib.hid (bstep HB.out hb (Nat.le_refl _))
  clear hb
  obtain ⟨x00, x01, x02, x03⟩ := TA.out.two
  obtain ⟨x10, x11, x12, x13⟩ := TB.out.two
  obtain ⟨x20, x21, x22, x23⟩ := TC.out.two
  go_wp2_with fail
  clear x00 x01 x02 x03 x10 x11 x12 x13 x20 x21 x22 x23
  with_reducible refine (c4 _).mono ?_
  rintro e w4 ⟨rfl, hb⟩
  replace TA := Lib.hid (TA.out.keep hb (Nat.le_refl _))
  replace TB := Lib.hid (TB.out.keep hb (Nat.le_refl _))
  replace TC := Lib.hid (TC.out.keep hb (Nat.le_refl _))
  replace HB := Lib.hid (bstep HB.out hb (Nat.le_refl _))
  clear hb
  obtain ⟨x00, x01, x02, x03⟩ := TA.out.two
  obtain ⟨x10, x11, x12, x13⟩ := TB.out.two
  obtain ⟨x20, x21, x22, x23⟩ := TC.out.two
  go_wp2_with fail
  clear x00 x01 x02 x03 x10 x11 x12 x13 x20 x21 x22 x23
  with_reducible refine (cw _).mono ?_
  rintro e w5 ⟨rfl, hb⟩
  replace TA := Lib.hid (TA.out.keep hb (Nat.le_refl _))
  replace TB := Lib.hid (TB.out.keep hb (Nat.le_refl _))
  replace TC := Lib.hid (TC.out.keep hb (Nat.le_refl _))
  replace HB := Lib.hid (bstep HB.out hb (Nat.le_refl _))
  clear hb
  obtain ⟨x00, x01, x02, x03⟩ := TA.out.two
  obtain ⟨x10, x11, x12, x13⟩ := TB.out.two
  obtain ⟨x20, x21, x22, x23⟩ := TC.out.two
  go_wp2_with fail
  with_reducible refine (cn1 _).mono ?_
  rintro e w9 ⟨rfl, rfl⟩
  go_wp2_with fail
  with_reducible refine (cn1 _).mono ?_
  rintro e w9 ⟨rfl, rfl⟩
  go_wp2_with fail
  clear x00 x01 x02 x03 x10 x11 x12 x13 x20 x21 x22 x23
  with_reducible refine (cra _).mono ?_
  rintro e w6 ⟨rfl, hb⟩
  replace TA := Lib.hid (TA.out.keep hb (Nat.le_refl _))
  replace TB := Lib.hid (TB.out.keep hb (Nat.le_refl _))
  replace TC := Lib.hid (TC.out.keep hb (Nat.le_refl _))
  replace HB := Lib.hid (bstep HB.out hb (Nat.le_refl _))
  clear hb
  obtain ⟨x00, x01, x02, x03⟩ := TA.out.two
  obtain ⟨x10, x11, x12, x13⟩ := TB.out.two
  obtain ⟨x20, x21, x22, x23⟩ := TC.out.two
  go_wp2_with fail
  go_ret
  exact ⟨rfl, HB.out⟩

set_option maxRecDepth 100000 in
set_option maxHeartbeats 8000000 in
theorem ord_bad2 (na da nb db nc dc : Int) (h1 : In64 na) (h2 : In64 da) (h3 : In64 nb) (h4 : In64 db) (h5 : In64 nc) (h6 : In64 dc) (ra : rightB na da = true) (rb : rightB nb db = false) (w : World) :
    Calls Tryz.prog 42 #[.agg #[.int .i64 na, .int .i64 da], .agg #[.int .i64 nb, .int .i64 db], .agg #[.int .i64 nc, .int .i64 dc]] w fun e w' => e = .returned (.bool true) ∧ Below w.heap.size w w' := by
  have cw := works_any
  have c1 := cmp_any na da nb db h1 h2 h3 h4
  have c2 := cmp_any nb db nc dc h3 h4 h5 h6
  have c3 := cmp_any na da nc dc h1 h2 h5 h6
  have c4 := cmp_any nb db na da h3 h4 h1 h2
  have cra := right_any na da h1 h2
  have crb := right_any nb db h3 h4
  have crc := right_any nc dc h5 h6
  have cn0 := num_nil
  have cn1 := num_errno 1 (by decide) (by decide)
  rw [ra] at cra
  rw [rb] at crb
  rw [rb] at c1
  simp only [Bool.and_false, Bool.false_eq_true, if_false, argC, errV] at c1
  rw [rb] at c2
  simp only [Bool.false_and, Bool.false_eq_true, if_false, argC, errV] at c2
  obtain ⟨kc3, ec3, hkc3⟩ := cmp_shape na da nc dc
  rw [hkc3] at c3
  clear hkc3
  rw [rb] at c4
  simp only [Bool.false_and, Bool.false_eq_true, if_false, argC, errV] at c4
  clear ra rb
  obtain ⟨ta, tb, tc, hsz, hbw⟩ := box3 w #[.int .i64 na, .int .i64 da] #[.int .i64 nb, .int .i64 db] #[.int .i64 nc, .int .i64 dc] 23 23 23
  have TA := Lib.hid ta
  have TB := Lib.hid tb
  have TC := Lib.hid tc
  have HB := Lib.hid hbw
  clear ta tb tc hsz hbw
  go_enter Tryz.func42, Tryz.ntmps42
  go_wp2_with fail
  with_reducible refine (c1 _).mono ?_
  rintro e w1 ⟨rfl, hb⟩
  replace TA := Lib.hid (TA.out.keep hb (Nat.le_refl _))
  replace TB := Lib.hid (TB.out.keep hb (Nat.le_refl _))
  replace TC := Lib.hid (TC.out.keep hb (Nat.le_refl _))
  replace HB := Lib.hid (bstep HB.out hb (Nat.le_refl _))
  clear hb
  obtain ⟨x00, x01, x02, x03⟩ := TA.out.two
  obtain ⟨x10, x11, x12, x13⟩ := TB.out.two
  obtain ⟨x20, x21, x22, x23⟩ := TC.out.two
  go_wp2_with fail
  clear x00 x01 x02 x03 x10 x11 x12 x13 x20 x21 x22 x23
  with_reducible refine (c2 _).mono ?_
  rintro e w2 ⟨rfl, hb⟩
  replace TA := Lib.hid (TA.out.keep hb (Nat.le_refl _))
  replace TB := Lib.hid (TB.out.keep hb (Nat.le_refl _))
  replace TC := Lib.hid (TC.out.keep hb (Nat.le_refl _))
  replace HB := Lib.hid (bstep HB.out hb (Nat.le_refl _))
  clear hb
  obtain ⟨x00, x01, x02, x03⟩ := TA.out.two
  obtain ⟨x10, x11, x12, x13⟩ := TB.out.two
  obtain ⟨x20, x21, x22, x23⟩ := TC.out.two
  go_wp2_with fail
  clear x00 x01 x02 x03 x10 x11 x12 x13 x20 x21 x22 x23
  with_reducible refine (c3 _).mono ?_
  rintro e w3 ⟨rfl, hb⟩
  replace TA := Lib.hid (TA.out.keep hb (Nat.le_refl _))
  replace TB := Lib.hid (TB.out.keep hb (Nat.le_refl _))
  replace TC := Lib.hid (TC.out.keep hb (Nat.le_refl _))
  replace HB := Lib.hid (bstep HB.out hb (Nat.le_refl _))
  clear hb
  obtain ⟨x00, x01, x02, x03⟩ := TA.out.two
  obtain ⟨x10, x11, x12, x13⟩ := TB.out.two
  obtain ⟨x20, x21, x22, x23⟩ := TC.out.two
  go_wp2_with fail
  clear x00 x01 x02 x03 x10 x11 x12 x13 x20 x21 x22 x23
  with_reducible refine (c4 _).mono ?_
  rintro e w4 ⟨rfl, hb⟩
  replace TA := Lib.hid (TA.out.keep hb (Nat.le_refl _))
  replace TB := Lib.hid (TB.out.keep hb (Nat.le_refl _))
  replace TC := Lib.hid (TC.out.keep hb (Nat.le_refl _))
  replace HB := Lib.hid (bstep HB.out hb (Nat.le_refl _))
  clear hb
  obtain ⟨x00, x01, x02, x03⟩ := TA.out.two
  obtain ⟨x10, x11, x12, x13⟩ := TB.out.two
  obtain ⟨x20, x21, x22, x23⟩ := TC.out.two
  go_wp2_with fail
  clear x00 x01 x02 x03 x10 x11 x12 x13 x20 x21 x22 x23
  with_reducible refine (cw _).mono ?_
  rintro e w5 ⟨rfl, hb⟩
  replace TA := Lib.hid (TA.out.keep hb (Nat.le_refl _))
  replace TB := Lib.hid (TB.out.keep hb (Nat.le_refl _))
  replace TC := Lib.hid (TC.out.keep hb (Nat.le_refl _))
  replace HB := Lib.hid (bstep HB.out hb (Nat.le_refl _))
  clear hb
  obtain ⟨x00, x01, x02, x03⟩ := TA.out.two
  obtain ⟨x10, x11, x12, x13⟩ := TB.out.two
  obtain ⟨x20, x21, x22, x23⟩ := TC.out.two
  go_wp2_with fail
  with_reducible refine (cn1 _).mono ?_
  rintro e w9 ⟨rfl, rfl⟩
  go_wp2_with fail
  with_reducible refine (cn1 _).mono ?_
  rintro e w9 ⟨rfl, rfl⟩
  go_wp2_with fail
  clear x00 x01 x02 x03 x10 x11 x12 x13 x20 x21 x22 x23
  with_reducible refine (cra _).mono ?_
  rintro e w6 ⟨rfl, hb⟩
  replace TA := Lib.hid (TA.out.keep hb (Nat.le_refl _))
  replace TB := Lib.hid (TB.out.keep hb (Nat.le_refl _))
  replace TC := Lib.hid (TC.out.keep hb (Nat.le_refl _))
  replace HB := Lib.hid (bstep HB.out hb (Nat.le_refl _))
  clear hb
  obtain ⟨x00, x01, x02, x03⟩ := TA.out.two
  obtain ⟨x10, x11, x12, x13⟩ := TB.out.two
  obtain ⟨x20, x21, x22, x23⟩ := TC.out.two
  go_wp2_with fail
  clear x00 x01 x02 x03 x10 x11 x12 x13 x20 x21 x22 x23
  with_reducible refine (crb _).mono ?_
  rintro e w7 ⟨rfl, hb⟩
  replace TA := Lib.hid (TA.out.keep hb (Nat.le_refl _))
  replace TB := Lib.hid (TB.out.keep hb (Nat.le_refl _))
  replace TC := Lib.hid (TC.out.keep hb (Nat.le_refl _))
  replace HB := Lib.hid (bstep HB.out hb (Nat.le_refl _))
  clear hb
  obtain ⟨x00, x01, x02, x03⟩ := TA.out.two
  obtain ⟨x10, x11, x12, x13⟩ := TB.out.two
  obtain ⟨x20, x21, x22, x23⟩ := TC.out.two
  go_wp2_with fail
  go_ret
  exact ⟨rfl, HB.out⟩

set_option maxRecDepth 100000 in
set_option maxHeartbeats 8000000 in
theorem ord_bad3 (na da nb db nc dc : Int) (h1 : In64 na) (h2 : In64 da) (h3 : In64 nb) (h4 : In64 db) (h5 : In64 nc) (h6 : In64 dc) (ra : rightB na da = true) (rb : rightB nb db = true) (rc : rightB nc dc = false) (w : World) :
    Calls Tryz.prog 42 #[.agg #[.int .i64 na, .int .i64 da], .agg #[.int .i64 nb, .int .i64 db], .agg #[.int .i64 nc, .int .i64 dc]] w fun e w' => e = .returned (.bool true) ∧ Below w.heap.size w w' := by
  have cw := works_any
  have c1 := cmp_any na da nb db h1 h2 h3 h4
  have c2 := cmp_any nb db nc dc h3 h4 h5 h6
  have c3 := cmp_any na da nc dc h1 h2 h5 h6
  have c4 := cmp_any nb db na da h3 h4 h1 h2
  have cra := right_any na da h1 h2
  have crb := right_any nb db h3 h4
  have crc := right_any nc dc h5 h6
  have cn0 := num_nil
  have cn1 := num_errno 1 (by decide) (by decide)
  rw [ra] at cra
  rw [rb] at crb
  rw [rc] at crc
  rw [ra, rb] at c1
  simp only [Bool.and_self, if_true, cmpV] at c1
  rw [rc] at c2
  simp only [Bool.and_false, Bool.false_eq_true, if_false, argC, errV] at c2
  rw [rc] at c3
  simp only [Bool.and_false, Bool.false_eq_true, if_false, argC, errV] at c3
  rw [rb, ra] at c4
  simp only [Bool.and_self, if_true, cmpV] at c4
  have hbk := cmpI_back na da nb db
  have hv := cmpI_vals na da nb db
  rw [hbk] at c4
  clear hbk
  generalize cmpI na da nb db = x at *
  have hneg : (-x != -x) = false := by simp
  have hxl : -1 ≤ x := by omega
  have hxu : x ≤ 1 := by omega
  clear hv
  clear ra rb rc
  obtain ⟨ta, tb, tc, hsz, hbw⟩ := box3 w #[.int .i64 na, .int .i64 da] #[.int .i64 nb, .int .i64 db] #[.int .i64 nc, .int .i64 dc] 23 23 23
  have TA := Lib.hid ta
  have TB := Lib.hid tb
  have TC := Lib.hid tc
  have HB := Lib.hid hbw
  clear ta tb tc hsz hbw
  go_enter Tryz.func42, Tryz.ntmps42
  go_wp2_with fail
  with_reducible refine (c1 _).mono ?_
  rintro e w1 ⟨rfl, hb⟩
  replace TA := Lib.hid (TA.out.keep hb (Nat.le_refl _))
  replace TB := Lib.hid (TB.out.keep hb (Nat.le_refl _))
  replace TC := Lib.hid (TC.out.keep hb (Nat.le_refl _))
  replace HB := Lib.hid (bstep HB.out hb (Nat.le_refl _))
  clear hb
  obtain ⟨x00, x01, x02, x03⟩ := TA.out.two
  obtain ⟨x10, x11, x12, x13⟩ := TB.out.two
  obtain ⟨x20, x21, x22, x23⟩ := TC.out.two
  go_wp2_with fail
  clear x00 x01 x02 x03 x10 x11 x12 x13 x20 x21 x22 x23
  with_reducible refine (c2 _).mono ?_
  rintro e w2 ⟨rfl, hb⟩
  replace TA := Lib.hid (TA.out.keep hb (Nat.le_refl _))
  replace TB := Lib.hid (TB.out.keep hb (Nat.le_refl _))
  replace TC := Lib.hid (TC.out.keep hb (Nat.le_refl _))
  replace HB := Lib.hid (bstep HB.out hb (Nat.le_refl _))
  clear hb
  obtain ⟨x00, x01, x02, x03⟩ := TA.out.two
  obtain ⟨x10, x11, x12, x13⟩ := TB.out.two
  obtain ⟨x20, x21, x22, x23⟩ := TC.out.two
  go_wp2_with fail
  clear x00 x01 x02 x03 x10 x11 x12 x13 x20 x21 x22 x23
  with_reducible refine (c3 _).mono ?_
  rintro e w3 ⟨rfl, hb⟩
  replace TA := Lib.hid (TA.out.keep hb (Nat.le_refl _))
  replace TB := Lib.hid (TB.out.keep hb (Nat.le_refl _))
  replace TC := Lib.hid (TC.out.keep hb (Nat.le_refl _))
  replace HB := Lib.hid (bstep HB.out hb (Nat.le_refl _))
  clear hb
  obtain ⟨x00, x01, x02, x03⟩ := TA.out.two
  obtain ⟨x10, x11, x12, x13⟩ := TB.out.two
  obtain ⟨x20, x21, x22, x23⟩ := TC.out.two
  go_wp2_with fail
  clear x00 x01 x02 x03 x10 x11 x12 x13 x20 x21 x22 x23
  with_reducible refine (c4 _).mono ?_
  rintro e w4 ⟨rfl, hb⟩
  replace TA := Lib.hid (TA.out.keep hb (Nat.le_refl _))
  replace TB := Lib.hid (TB.out.keep hb (Nat.le_refl _))
  replace TC := Lib.hid (TC.out.keep hb (Nat.le_refl _))
  replace HB := Lib.hid (bstep HB.out hb (Nat.le_refl _))
  clear hb
  obtain ⟨x00, x01, x02, x03⟩ := TA.out.two
  obtain ⟨x10, x11, x12, x13⟩ := TB.out.two
  obtain ⟨x20, x21, x22, x23⟩ := TC.out.two
  go_wp2_with fail
  clear x00 x01 x02 x03 x10 x11 x12 x13 x20 x21 x22 x23
  with_reducible refine (cw _).mono ?_
  rintro e w5 ⟨rfl, hb⟩
  replace TA := Lib.hid (TA.out.keep hb (Nat.le_refl _))
  replace TB := Lib.hid (TB.out.keep hb (Nat.le_refl _))
  replace TC := Lib.hid (TC.out.keep hb (Nat.le_refl _))
  replace HB := Lib.hid (bstep HB.out hb (Nat.le_refl _))
  clear hb
  obtain ⟨x00, x01, x02, x03⟩ := TA.out.two
  obtain ⟨x10, x11, x12, x13⟩ := TB.out.two
  obtain ⟨x20, x21, x22, x23⟩ := TC.out.two
  go_wp2_with fail
  with_reducible refine (cn0 _).mono ?_
  rintro e w9 ⟨rfl, rfl⟩
  go_wp2_with fail
  with_reducible refine (cn0 _).mono ?_
  rintro e w9 ⟨rfl, rfl⟩
  go_wp2_with fail
  clear x00 x01 x02 x03 x10 x11 x12 x13 x20 x21 x22 x23
  with_reducible refine (cra _).mono ?_
  rintro e w6 ⟨rfl, hb⟩
  replace TA := Lib.hid (TA.out.keep hb (Nat.le_refl _))
  replace TB := Lib.hid (TB.out.keep hb (Nat.le_refl _))
  replace TC := Lib.hid (TC.out.keep hb (Nat.le_refl _))
  replace HB := Lib.hid (bstep HB.out hb (Nat.le_refl _))
  clear hb
  obtain ⟨x00, x01, x02, x03⟩ := TA.out.two
  obtain ⟨x10, x11, x12, x13⟩ := TB.out.two
  obtain ⟨x20, x21, x22, x23⟩ := TC.out.two
  go_wp2_with fail
  clear x00 x01 x02 x03 x10 x11 x12 x13 x20 x21 x22 x23
  with_reducible refine (crb _).mono ?_
  rintro e w7 ⟨rfl, hb⟩
  replace TA := Lib.hid (TA.out.keep hb (Nat.le_refl _))
  replace TB := Lib.hid (TB.out.keep hb (Nat.le_refl _))
  replace TC := Lib.hid (TC.out.keep hb (Nat.le_refl _))
  replace HB := Lib.hid (bstep HB.out hb (Nat.le_refl _))
  clear hb
  obtain ⟨x00, x01, x02, x03⟩ := TA.out.two
  obtain ⟨x10, x11, x12, x13⟩ := TB.out.two
  obtain ⟨x20, x21, x22, x23⟩ := TC.out.two
  go_wp2_with fail
  clear x00 x01 x02 x03 x10 x11 x12 x13 x20 x21 x22 x23
  with_reducible refine (crc _).mono ?_
  rintro e w8 ⟨rfl, hb⟩
  replace TA := Lib.hid (TA.out.keep hb (Nat.le_refl _))
  replace TB := Lib.hid (TB.out.keep hb (Nat.le_refl _))
  replace TC := Lib.hid (TC.out.keep hb (Nat.le_refl _))
  replace HB := Lib.hid (bstep HB.out hb (Nat.le_refl _))
  clear hb
  obtain ⟨x00, x01, x02, x03⟩ := TA.out.two
  obtain ⟨x10, x11, x12, x13⟩ := TB.out.two
  obtain ⟨x20, x21, x22, x23⟩ := TC.out.two
  go_wp2_with fail
  go_ret
  exact ⟨rfl, HB.out⟩

set_option maxRecDepth 100000 in
set_option maxHeartbeats 8000000 in
theorem ord_ok (na da nb db nc dc : Int) (h1 : In64 na) (h2 : In64 da) (h3 : In64 nb) (h4 : In64 db) (h5 : In64 nc) (h6 : In64 dc) (ra : rightB na da = true) (rb : rightB nb db = true) (rc : rightB nc dc = true) (x y z : Int) (hx : cmpI na da nb db = x) (hy : cmpI nb db nc dc = y) (hz : cmpI na da nc dc = z) (hbk : cmpI nb db na da = -x) (hxv : x = -1 ∨ x = 0 ∨ x = 1) (hyv : y = -1 ∨ y = 0 ∨ y = 1) (hzv : z = -1 ∨ z = 0 ∨ z = 1) (hs : x = 0 ↔ (na = nb ∧ da = db)) (t1 : x ≤ 0 → y ≤ 0 → z ≤ 0) (t2 : x < 0 → y ≤ 0 → z < 0) (t3 : x ≤ 0 → y < 0 → z < 0) (n d : Int) (xs : sumV na da nb db true = .tuple #[.agg #[.int .i64 n, .int .i64 d], .nilIface]) (hlt : n < 0 ↔ x < 0) (hgt : 0 < n ↔ 0 < x) (w : World) :
    Calls Tryz.prog 42 #[.agg #[.int .i64 na, .int .i64 da], .agg #[.int .i64 nb, .int .i64 db], .agg #[.int .i64 nc, .int .i64 dc]] w fun e w' => e = .returned (.bool true) ∧ Below w.heap.size w w' := by
  have cw := works_any
  have c1 := cmp_any na da nb db h1 h2 h3 h4
  have c2 := cmp_any nb db nc dc h3 h4 h5 h6
  have c3 := cmp_any na da nc dc h1 h2 h5 h6
  have c4 := cmp_any nb db na da h3 h4 h1 h2
  have cra := right_any na da h1 h2
  have crb := right_any nb db h3 h4
  have crc := right_any nc dc h5 h6
  have cn0 := num_nil
  have cn1 := num_errno 1 (by decide) (by decide)
  rw [ra] at cra
  rw [rb] at crb
  rw [rc] at crc
  rw [ra, rb] at c1
  simp only [Bool.and_self, if_true, cmpV] at c1
  rw [rb, rc] at c2
  simp only [Bool.and_self, if_true, cmpV] at c2
  rw [ra, rc] at c3
  simp only [Bool.and_self, if_true, cmpV] at c3
  rw [rb, ra] at c4
  simp only [Bool.and_self, if_true, cmpV] at c4
  rw [hx] at c1
  rw [hy] at c2
  rw [hz] at c3
  rw [hbk] at c4
  have cs := sub_any na da nb db h1 h2 h3 h4
  rw [xs] at cs
  have HX := Lib.hid hxv
  have HY := Lib.hid hyv
  have HZ := Lib.hid hzv
  have HS := Lib.hid hs
  have HT := Lib.hid (And.intro t1 (And.intro t2 t3))
  have HLG := Lib.hid (And.intro hlt hgt)
  clear hlt hgt
  have hneg : (-x != -x) = false := by simp
  have hxl : -1 ≤ x := by omega
  have hxu : x ≤ 1 := by omega
  clear hxv hyv hzv hs t1 t2 t3 xs hx hy hz hbk
  obtain ⟨sm, hsm⟩ : ∃ b, b = decide (na = nb ∧ da = db) := ⟨_, rfl⟩
  have HSM := Lib.hid hsm
  have reql := rat_eql na da nb db
  rw [← hsm] at reql
  clear hsm
  clear ra rb rc
  obtain ⟨ta, tb, tc, hsz, hbw⟩ := box3 w #[.int .i64 na, .int .i64 da] #[.int .i64 nb, .int .i64 db] #[.int .i64 nc, .int .i64 dc] 23 23 23
  have TA := Lib.hid ta
  have TB := Lib.hid tb
  have TC := Lib.hid tc
  have HB := Lib.hid hbw
  clear ta tb tc hsz hbw
  go_enter Tryz.func42, Tryz.ntmps42
  go_wp2_with fail
  with_reducible refine (c1 _).mono ?_
  rintro e w1 ⟨rfl, hb⟩
  replace TA := Lib.hid (TA.out.keep hb (Nat.le_refl _))
  replace TB := Lib.hid (TB.out.keep hb (Nat.le_refl _))
  replace TC := Lib.hid (TC.out.keep hb (Nat.le_refl _))
  replace HB := Lib.hid (bstep HB.out hb (Nat.le_refl _))
  clear hb
  obtain ⟨x00, x01, x02, x03⟩ := TA.out.two
  obtain ⟨x10, x11, x12, x13⟩ := TB.out.two
  obtain ⟨x20, x21, x22, x23⟩ := TC.out.two
  go_wp2_with fail
  clear x00 x01 x02 x03 x10 x11 x12 x13 x20 x21 x22 x23
  with_reducible refine (c2 _).mono ?_
  rintro e w2 ⟨rfl, hb⟩
  replace TA := Lib.hid (TA.out.keep hb (Nat.le_refl _))
  replace TB := Lib.hid (TB.out.keep hb (Nat.le_refl _))
  replace TC := Lib.hid (TC.out.keep hb (Nat.le_refl _))
  replace HB := Lib.hid (bstep HB.out hb (Nat.le_refl _))
  clear hb
  obtain ⟨x00, x01, x02, x03⟩ := TA.out.two
  obtain ⟨x10, x11, x12, x13⟩ := TB.out.two
  obtain ⟨x20, x21, x22, x23⟩ := TC.out.two
  go_wp2_with fail
  clear x00 x01 x02 x03 x10 x11 x12 x13 x20 x21 x22 x23
  with_reducible refine (c3 _).mono ?_
  rintro e w3 ⟨rfl, hb⟩
  replace TA := Lib.hid (TA.out.keep hb (Nat.le_refl _))
  replace TB := Lib.hid (TB.out.keep hb (Nat.le_refl _))
  replace TC := Lib.hid (TC.out.keep hb (Nat.le_refl _))
  replace HB := Lib.hid (bstep HB.out hb (Nat.le_refl _))
  clear hb
  obtain ⟨x00, x01, x02, x03⟩ := TA.out.two
  obtain ⟨x10, x11, x12, x13⟩ := TB.out.two
  obtain ⟨x20, x21, x22, x23⟩ := TC.out.two
  go_wp2_with fail
  clear x00 x01 x02 x03 x10 x11 x12 x13 x20 x21 x22 x23
  with_reducible refine (c4 _).mono ?_
  rintro e w4 ⟨rfl, hb⟩
  replace TA := Lib.hid (TA.out.keep hb (Nat.le_refl _))
  replace TB := Lib.hid (TB.out.keep hb (Nat.le_refl _))
  replace TC := Lib.hid (TC.out.keep hb (Nat.le_refl _))
  replace HB := Lib.hid (bstep HB.out hb (Nat.le_refl _))
  clear hb
  obtain ⟨x00, x01, x02, x03⟩ := TA.out.two
  obtain ⟨x10, x11, x12, x13⟩ := TB.out.two
  obtain ⟨x20, x21, x22, x23⟩ := TC.out.two
  go_wp2_with fail
  clear x00 x01 x02 x03 x10 x11 x12 x13 x20 x21 x22 x23
  with_reducible refine (cw _).mono ?_
  rintro e w5 ⟨rfl, hb⟩
  replace TA := Lib.hid (TA.out.keep hb (Nat.le_refl _))
  replace TB := Lib.hid (TB.out.keep hb (Nat.le_refl _))
  replace TC := Lib.hid (TC.out.keep hb (Nat.le_refl _))
  replace HB := Lib.hid (bstep HB.out hb (Nat.le_refl _))
  clear hb
  obtain ⟨x00, x01, x02, x03⟩ := TA.out.two
  obtain ⟨x10, x11, x12, x13⟩ := TB.out.two
  obtain ⟨x20, x21, x22, x23⟩ := TC.out.two
  go_wp2_with fail
  with_reducible refine (cn0 _).mono ?_
  rintro e w9 ⟨rfl, rfl⟩
  go_wp2_with fail
  with_reducible refine (cn0 _).mono ?_
  rintro e w9 ⟨rfl, rfl⟩
  obtain ⟨w9', hw9⟩ : ∃ x, x = w9 := ⟨_, rfl⟩
  subst hw9
  go_upto_region 9 with fail
  go_cut [128] (fun v wc => BoolIs false v ∧ wc = w9')
  case first =>
    -- DEV<
    rcases HX.out with rfl | rfl | rfl
    all_goals rcases HY.out with rfl | rfl | rfl
    all_goals rcases HZ.out with rfl | rfl | rfl
    all_goals first
      | (exfalso; obtain ⟨t1, t2, t3⟩ := HT.out; omega)
      | (cases sm
         · first
             | (exfalso; have h := HSM.out; have h2 := HS.out; simp at h h2; (try omega); (try exact h h2.1 h2.2); done)
             | (go_wp2_with fail
                go_meet
                case rel => exact ⟨rfl, rfl⟩)
         · first
             | (exfalso; have h := HSM.out; have h2 := HS.out; simp at h h2; (try omega); (try exact h2 h.1 h.2); done)
             | (go_wp2_with fail
                go_meet
                case rel => exact ⟨rfl, rfl⟩))
    -- DEV>
  case rest =>
    obtain ⟨rfl, rfl⟩ := hcut
    go_wp2_with fail
    with_reducible refine (cs _).mono ?_
    rintro e w6 ⟨rfl, hb⟩
    replace HB := Lib.hid (bstep HB.out hb (Nat.le_refl _))
    clear hb x00 x01 x02 x03 x10 x11 x12 x13 x20 x21 x22 x23 cs
    obtain ⟨hlt, hgt⟩ := HLG.out
    rcases HX.out with rfl | rfl | rfl
    · have k1 : n < 0 := hlt.2 (by decide)
      have k2 : ¬ 0 < n := by omega
      have b1 : decide (n < 0) = true := decide_eq_true k1
      have b2 : decide (0 < n) = false := decide_eq_false k2
      clear hlt hgt
      go_wp2_with fail
      go_ret
      exact ⟨rfl, HB.out.alloc HB.out.size _⟩
    · have k1 : ¬ n < 0 := fun h => absurd (hlt.1 h) (by decide)
      have k2 : ¬ 0 < n := fun h => absurd (hgt.1 h) (by decide)
      have b1 : decide (n < 0) = false := decide_eq_false k1
      have b2 : decide (0 < n) = false := decide_eq_false k2
      clear hlt hgt
      go_wp2_with fail
      go_ret
      exact ⟨rfl, HB.out.alloc HB.out.size _⟩
    · have k2 : 0 < n := hgt.2 (by decide)
      have k1 : ¬ n < 0 := by omega
      have b1 : decide (n < 0) = false := decide_eq_false k1
      have b2 : decide (0 < n) = true := decide_eq_true k2
      clear hlt hgt
      go_wp2_with fail
      go_ret
      exact ⟨rfl, HB.out.alloc HB.out.size _⟩

set_option maxRecDepth 100000 in
set_option maxHeartbeats 8000000 in
theorem ord_over (na da nb db nc dc : Int) (h1 : In64 na) (h2 : In64 da) (h3 : In64 nb) (h4 : In64 db) (h5 : In64 nc) (h6 : In64 dc) (ra : rightB na da = true) (rb : rightB nb db = true) (rc : rightB nc dc = true) (x y z : Int) (hx : cmpI na da nb db = x) (hy : cmpI nb db nc dc = y) (hz : cmpI na da nc dc = z) (hbk : cmpI nb db na da = -x) (hxv : x = -1 ∨ x = 0 ∨ x = 1) (hyv : y = -1 ∨ y = 0 ∨ y = 1) (hzv : z = -1 ∨ z = 0 ∨ z = 1) (hs : x = 0 ↔ (na = nb ∧ da = db)) (t1 : x ≤ 0 → y ≤ 0 → z ≤ 0) (t2 : x < 0 → y ≤ 0 → z < 0) (t3 : x ≤ 0 → y < 0 → z < 0) (xs : sumV na da nb db true = .tuple #[.agg #[.int .i64 0, .int .i64 0], errV 9]) (w : World) :
    Calls Tryz.prog 42 #[.agg #[.int .i64 na, .int .i64 da], .agg #[.int .i64 nb, .int .i64 db], .agg #[.int .i64 nc, .int .i64 dc]] w fun e w' => e = .returned (.bool true) ∧ Below w.heap.size w w' := by
  have cw := works_any
  have c1 := cmp_any na da nb db h1 h2 h3 h4
  have c2 := cmp_any nb db nc dc h3 h4 h5 h6
  have c3 := cmp_any na da nc dc h1 h2 h5 h6
  have c4 := cmp_any nb db na da h3 h4 h1 h2
  have cra := right_any na da h1 h2
  have crb := right_any nb db h3 h4
  have crc := right_any nc dc h5 h6
  have cn0 := num_nil
  have cn1 := num_errno 1 (by decide) (by decide)
  rw [ra] at cra
  rw [rb] at crb
  rw [rc] at crc
  rw [ra, rb] at c1
  simp only [Bool.and_self, if_true, cmpV] at c1
  rw [rb, rc] at c2
  simp only [Bool.and_self, if_true, cmpV] at c2
  rw [ra, rc] at c3
  simp only [Bool.and_self, if_true, cmpV] at c3
  rw [rb, ra] at c4
  simp only [Bool.and_self, if_true, cmpV] at c4
  rw [hx] at c1
  rw [hy] at c2
  rw [hz] at c3
  rw [hbk] at c4
  have cs := sub_any na da nb db h1 h2 h3 h4
  rw [xs] at cs
  have HX := Lib.hid hxv
  have HY := Lib.hid hyv
  have HZ := Lib.hid hzv
  have HS := Lib.hid hs
  have HT := Lib.hid (And.intro t1 (And.intro t2 t3))
  simp only [errV] at cs
  have hneg : (-x != -x) = false := by simp
  have hxl : -1 ≤ x := by omega
  have hxu : x ≤ 1 := by omega
  clear hxv hyv hzv hs t1 t2 t3 xs hx hy hz hbk
  obtain ⟨sm, hsm⟩ : ∃ b, b = decide (na = nb ∧ da = db) := ⟨_, rfl⟩
  have HSM := Lib.hid hsm
  have reql := rat_eql na da nb db
  rw [← hsm] at reql
  clear hsm
  clear ra rb rc
  obtain ⟨ta, tb, tc, hsz, hbw⟩ := box3 w #[.int .i64 na, .int .i64 da] #[.int .i64 nb, .int .i64 db] #[.int .i64 nc, .int .i64 dc] 23 23 23
  have TA := Lib.hid ta
  have TB := Lib.hid tb
  have TC := Lib.hid tc
  have HB := Lib.hid hbw
  clear ta tb tc hsz hbw
  go_enter Tryz.func42, Tryz.ntmps42
  go_wp2_with fail
  with_reducible refine (c1 _).mono ?_
  rintro e w1 ⟨rfl, hb⟩
  replace TA := Lib.hid (TA.out.keep hb (Nat.le_refl _))
  replace TB := Lib.hid (TB.out.keep hb (Nat.le_refl _))
  replace TC := Lib.hid (TC.out.keep hb (Nat.le_refl _))
  replace HB := Lib.hid (bstep HB.out hb (Nat.le_refl _))
  clear hb
  obtain ⟨x00, x01, x02, x03⟩ := TA.out.two
  obtain ⟨x10, x11, x12, x13⟩ := TB.out.two
  obtain ⟨x20, x21, x22, x23⟩ := TC.out.two
  go_wp2_with fail
  clear x00 x01 x02 x03 x10 x11 x12 x13 x20 x21 x22 x23
  with_reducible refine (c2 _).mono ?_
  rintro e w2 ⟨rfl, hb⟩
  replace TA := Lib.hid (TA.out.keep hb (Nat.le_refl _))
  replace TB := Lib.hid (TB.out.keep hb (Nat.le_refl _))
  replace TC := Lib.hid (TC.out.keep hb (Nat.le_refl _))
  replace HB := Lib.hid (bstep HB.out hb (Nat.le_refl _))
  clear hb
  obtain ⟨x00, x01, x02, x03⟩ := TA.out.two
  obtain ⟨x10, x11, x12, x13⟩ := TB.out.two
  obtain ⟨x20, x21, x22, x23⟩ := TC.out.two
  go_wp2_with fail
  clear x00 x01 x02 x03 x10 x11 x12 x13 x20 x21 x22 x23
  with_reducible refine (c3 _).mono ?_
  rintro e w3 ⟨rfl, hb⟩
  replace TA := Lib.hid (TA.out.keep hb (Nat.le_refl _))
  replace TB := Lib.hid (TB.out.keep hb (Nat.le_refl _))
  replace TC := Lib.hid (TC.out.keep hb (Nat.le_refl _))
  replace HB := Lib.hid (bstep HB.out hb (Nat.le_refl _))
  clear hb
  obtain ⟨x00, x01, x02, x03⟩ := TA.out.two
  obtain ⟨x10, x11, x12, x13⟩ := TB.out.two
  obtain ⟨x20, x21, x22, x23⟩ := TC.out.two
  go_wp2_with fail
  clear x00 x01 x02 x03 x10 x11 x12 x13 x20 x21 x22 x23
  with_reducible refine (c4 _).mono ?_
  rintro e w4 ⟨rfl, hb⟩
  replace TA := Lib.hid (TA.out.keep hb (Nat.le_refl _))
  replace TB := Lib.hid (TB.out.keep hb (Nat.le_refl _))
  replace TC := Lib.hid (TC.out.keep hb (Nat.le_refl _))
  replace HB := Lib.hid (bstep HB.out hb (Nat.le_refl _))
  clear hb
  obtain ⟨x00, x01, x02, x03⟩ := TA.out.two
  obtain ⟨x10, x11, x12, x13⟩ := TB.out.two
  obtain ⟨x20, x21, x22, x23⟩ := TC.out.two
  go_wp2_with fail
  clear x00 x01 x02 x03 x10 x11 x12 x13 x20 x21 x22 x23
  with_reducible refine (cw _).mono ?_
  rintro e w5 ⟨rfl, hb⟩
  replace TA := Lib.hid (TA.out.keep hb (Nat.le_refl _))
  replace TB := Lib.hid (TB.out.keep hb (Nat.le_refl _))
  replace TC := Lib.hid (TC.out.keep hb (Nat.le_refl _))
  replace HB := Lib.hid (bstep HB.out hb (Nat.le_refl _))
  clear hb
  obtain ⟨x00, x01, x02, x03⟩ := TA.out.two
  obtain ⟨x10, x11, x12, x13⟩ := TB.out.two
  obtain ⟨x20, x21, x22, x23⟩ := TC.out.two
  go_wp2_with fail
  with_reducible refine (cn0 _).mono ?_
  rintro e w9 ⟨rfl, rfl⟩
  go_wp2_with fail
  with_reducible refine (cn0 _).mono ?_
  rintro e w9 ⟨rfl, rfl⟩
  obtain ⟨w9', hw9⟩ : ∃ x, x = w9 := ⟨_, rfl⟩
  subst hw9
  go_upto_region 9 with fail
  go_cut [128] (fun v wc => BoolIs false v ∧ wc = w9')
  case first =>
    -- DEV<
    rcases HX.out with rfl | rfl | rfl
    all_goals rcases HY.out with rfl | rfl | rfl
    all_goals rcases HZ.out with rfl | rfl | rfl
    all_goals first
      | (exfalso; obtain ⟨t1, t2, t3⟩ := HT.out; omega)
      | (cases sm
         · first
             | (exfalso; have h := HSM.out; have h2 := HS.out; simp at h h2; (try omega); (try exact h h2.1 h2.2); done)
             | (go_wp2_with fail
                go_meet
                case rel => exact ⟨rfl, rfl⟩)
         · first
             | (exfalso; have h := HSM.out; have h2 := HS.out; simp at h h2; (try omega); (try exact h2 h.1 h.2); done)
             | (go_wp2_with fail
                go_meet
                case rel => exact ⟨rfl, rfl⟩))
    -- DEV>
  case rest =>
    obtain ⟨rfl, rfl⟩ := hcut
    go_wp2_with fail
    with_reducible refine (cs _).mono ?_
    rintro e w6 ⟨rfl, hb⟩
    replace HB := Lib.hid (bstep HB.out hb (Nat.le_refl _))
    clear hb x00 x01 x02 x03 x10 x11 x12 x13 x20 x21 x22 x23 cs
    go_wp2_with fail
    go_ret
    exact ⟨rfl, HB.out.alloc HB.out.size _⟩

theorem ratOrders_walk (na da nb db nc dc : Int) (h1 : In64 na) (h2 : In64 da) (h3 : In64 nb) (h4 : In64 db) (h5 : In64 nc) (h6 : In64 dc) (w : World) :
    Calls Tryz.prog 42 #[.agg #[.int .i64 na, .int .i64 da], .agg #[.int .i64 nb, .int .i64 db], .agg #[.int .i64 nc, .int .i64 dc]] w fun e w' => e = .returned (.bool true) ∧ Below w.heap.size w w' := by
  cases ra : rightB na da
  · exact ord_bad1 na da nb db nc dc h1 h2 h3 h4 h5 h6 ra w
  · cases rb : rightB nb db
    · exact ord_bad2 na da nb db nc dc h1 h2 h3 h4 h5 h6 ra rb w
    · cases rc : rightB nc dc
      · exact ord_bad3 na da nb db nc dc h1 h2 h3 h4 h5 h6 ra rb rc w
      · have pa := (rightB_iff na da h1 h2).1 ra
        have pb := (rightB_iff nb db h3 h4).1 rb
        have pc := (rightB_iff nc dc h5 h6).1 rc
        obtain ⟨t1, t2, t3⟩ := cmpI_trans na da nb db nc dc (by have := pa.1; omega) (by have := pb.1; omega) (by have := pc.1; omega)
        rcases sub_cases na da nb db pa pb with ⟨n, d, xs, hlt, hgt⟩ | xs
        · exact ord_ok na da nb db nc dc h1 h2 h3 h4 h5 h6 ra rb rc _ _ _ rfl rfl rfl (cmpI_back _ _ _ _) (cmpI_vals _ _ _ _) (cmpI_vals _ _ _ _) (cmpI_vals _ _ _ _) (cmpI_same _ _ _ _ pa pb) t1 t2 t3 n d xs hlt hgt w
        · exact ord_over na da nb db nc dc h1 h2 h3 h4 h5 h6 ra rb rc _ _ _ rfl rfl rfl (cmpI_back _ _ _ _) (cmpI_vals _ _ _ _) (cmpI_vals _ _ _ _) (cmpI_vals _ _ _ _) (cmpI_same _ _ _ _ pa pb) t1 t2 t3 xs w
end Go.Proofs.YtajebceanonalaaGreatDoor
