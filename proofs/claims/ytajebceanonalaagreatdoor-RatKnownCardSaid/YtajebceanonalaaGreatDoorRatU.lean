/-
  The walk of RatBack.
-/
import Derived.Test.YtajebceanonalaaGreatDoorRatV
import Derived.Test.YtajebceanonalaaGreatDoorBaseD

namespace Go.Proofs.YtajebceanonalaaGreatDoor
set_option linter.unusedVariables false
open Go.RowKit

theorem push1 (w : World) (xs : Array Value) (T : TypeId) : Blk (w.alloc (.cells xs T)) w.heap.size xs ∧ Below w.heap.size w (w.alloc (.cells xs T)) := ⟨Blk.new _ _ _, (Below.refl _ _).alloc (Nat.le_refl _) _⟩

set_option maxRecDepth 100000 in
set_option maxHeartbeats 4000000 in
theorem back_argA (na da nb db : Int) (h1 : In64 na) (h2 : In64 da) (h3 : In64 nb) (h4 : In64 db) (ra : rightB na da = false)
    (xa1 : sumV na da nb db false = .tuple #[.agg #[.int .i64 0, .int .i64 0], .iface 36 (.int .i64 1)]) (xa2 : sumV nb db na da false = .tuple #[.agg #[.int .i64 0, .int .i64 0], .iface 36 (.int .i64 1)])
    (xm1 : mulV na da nb db = .tuple #[.agg #[.int .i64 0, .int .i64 0], .iface 36 (.int .i64 1)]) (xm2 : mulV nb db na da = .tuple #[.agg #[.int .i64 0, .int .i64 0], .iface 36 (.int .i64 1)]) (w : World) :
    Calls Tryz.prog 41 #[.agg #[.int .i64 na, .int .i64 da], .agg #[.int .i64 nb, .int .i64 db]] w fun e w' => e = .returned (.bool true) ∧ Below w.heap.size w w' := by
  have cw := works_any
  have ca1 := add_any na da nb db h1 h2 h3 h4
  have ca2 := add_any nb db na da h3 h4 h1 h2
  have cm1 := mul_any na da nb db h1 h2 h3 h4
  have cm2 := mul_any nb db na da h3 h4 h1 h2
  rw [xa1] at ca1
  rw [xa2] at ca2
  rw [xm1] at cm1
  rw [xm2] at cm2
  have cra := right_any na da h1 h2
  have crb := right_any nb db h3 h4
  have cn0 := num_nil
  have cn1 := num_errno 1 (by decide) (by decide)
  have cn9 := num_errno 9 (by decide) (by decide)
  rw [ra] at cra
  clear xa1 xa2 xm1 xm2 ra
  obtain ⟨ta, tb, hsz, hbw⟩ := box2 w #[.int .i64 na, .int .i64 da] #[.int .i64 nb, .int .i64 db] 23 23
  have TA := Lib.hid ta
  have TB := Lib.hid tb
  have HB := Lib.hid hbw
  clear ta tb hsz hbw
  go_enter Tryz.func41, Tryz.ntmps41
  go_wp2_with fail
  with_reducible refine (cw _).mono ?_
  rintro e w1 ⟨rfl, hb⟩
  replace TA := Lib.hid (TA.out.keep hb (Nat.le_refl _))
  replace TB := Lib.hid (TB.out.keep hb (Nat.le_refl _))
  replace HB := Lib.hid (bstep HB.out hb (Nat.le_refl _))
  clear hb
  obtain ⟨x00, x01, x02, x03⟩ := TA.out.two
  obtain ⟨x10, x11, x12, x13⟩ := TB.out.two
  go_wp2_with fail
  with_reducible refine (ca1 _).mono ?_
  rintro e w2 ⟨rfl, hb⟩
  replace TA := Lib.hid (TA.out.keep hb (Nat.le_refl _))
  replace TB := Lib.hid (TB.out.keep hb (Nat.le_refl _))
  replace HB := Lib.hid (bstep HB.out hb (Nat.le_refl _))
  clear hb
  clear x00 x01 x02 x03 x10 x11 x12 x13
  go_upto_region 4 with fail
  obtain ⟨tn, hb⟩ := push1 w2 #[.int .i64 0, .int .i64 0] 23
  have TS := Lib.hid tn
  replace TA := Lib.hid (TA.out.keep hb (Nat.le_refl _))
  replace TB := Lib.hid (TB.out.keep hb (Nat.le_refl _))
  replace HB := Lib.hid (bstep HB.out hb (Nat.le_refl _))
  clear hb tn
  generalize w2.alloc (.cells #[.int .i64 0, .int .i64 0] 23) = v2 at *
  obtain ⟨x00, x01, x02, x03⟩ := TA.out.two
  obtain ⟨x10, x11, x12, x13⟩ := TB.out.two
  go_wp2_with fail
  with_reducible refine (ca2 _).mono ?_
  rintro e w3 ⟨rfl, hb⟩
  replace TA := Lib.hid (TA.out.keep hb (Nat.le_refl _))
  replace TB := Lib.hid (TB.out.keep hb (Nat.le_refl _))
  replace TS := Lib.hid (TS.out.keep hb (Nat.le_refl _))
  replace HB := Lib.hid (bstep HB.out hb (Nat.le_refl _))
  clear hb
  clear x00 x01 x02 x03 x10 x11 x12 x13
  go_upto_region 5 with fail
  obtain ⟨tn, hb⟩ := push1 w3 #[.int .i64 0, .int .i64 0] 23
  have TT := Lib.hid tn
  replace TA := Lib.hid (TA.out.keep hb (Nat.le_refl _))
  replace TB := Lib.hid (TB.out.keep hb (Nat.le_refl _))
  replace TS := Lib.hid (TS.out.keep hb (Nat.le_refl _))
  replace HB := Lib.hid (bstep HB.out hb (Nat.le_refl _))
  clear hb tn
  generalize w3.alloc (.cells #[.int .i64 0, .int .i64 0] 23) = v3 at *
  obtain ⟨x00, x01, x02, x03⟩ := TA.out.two
  obtain ⟨x10, x11, x12, x13⟩ := TB.out.two
  go_wp2_with fail
  with_reducible refine (cm1 _).mono ?_
  rintro e w4 ⟨rfl, hb⟩
  replace TA := Lib.hid (TA.out.keep hb (Nat.le_refl _))
  replace TB := Lib.hid (TB.out.keep hb (Nat.le_refl _))
  replace TS := Lib.hid (TS.out.keep hb (Nat.le_refl _))
  replace TT := Lib.hid (TT.out.keep hb (Nat.le_refl _))
  replace HB := Lib.hid (bstep HB.out hb (Nat.le_refl _))
  clear hb
  clear x00 x01 x02 x03 x10 x11 x12 x13
  go_upto_region 6 with fail
  obtain ⟨tn, hb⟩ := push1 w4 #[.int .i64 0, .int .i64 0] 23
  have TP := Lib.hid tn
  replace TA := Lib.hid (TA.out.keep hb (Nat.le_refl _))
  replace TB := Lib.hid (TB.out.keep hb (Nat.le_refl _))
  replace TS := Lib.hid (TS.out.keep hb (Nat.le_refl _))
  replace TT := Lib.hid (TT.out.keep hb (Nat.le_refl _))
  replace HB := Lib.hid (bstep HB.out hb (Nat.le_refl _))
  clear hb tn
  generalize w4.alloc (.cells #[.int .i64 0, .int .i64 0] 23) = v4 at *
  obtain ⟨x00, x01, x02, x03⟩ := TA.out.two
  obtain ⟨x10, x11, x12, x13⟩ := TB.out.two
  go_wp2_with fail
  with_reducible refine (cm2 _).mono ?_
  rintro e w5 ⟨rfl, hb⟩
  replace TA := Lib.hid (TA.out.keep hb (Nat.le_refl _))
  replace TB := Lib.hid (TB.out.keep hb (Nat.le_refl _))
  replace TS := Lib.hid (TS.out.keep hb (Nat.le_refl _))
  replace TT := Lib.hid (TT.out.keep hb (Nat.le_refl _))
  replace TP := Lib.hid (TP.out.keep hb (Nat.le_refl _))
  replace HB := Lib.hid (bstep HB.out hb (Nat.le_refl _))
  clear hb
  clear x00 x01 x02 x03 x10 x11 x12 x13
  go_upto_region 7 with fail
  obtain ⟨tn, hb⟩ := push1 w5 #[.int .i64 0, .int .i64 0] 23
  have TQ := Lib.hid tn
  replace TA := Lib.hid (TA.out.keep hb (Nat.le_refl _))
  replace TB := Lib.hid (TB.out.keep hb (Nat.le_refl _))
  replace TS := Lib.hid (TS.out.keep hb (Nat.le_refl _))
  replace TT := Lib.hid (TT.out.keep hb (Nat.le_refl _))
  replace TP := Lib.hid (TP.out.keep hb (Nat.le_refl _))
  replace HB := Lib.hid (bstep HB.out hb (Nat.le_refl _))
  clear hb tn
  generalize w5.alloc (.cells #[.int .i64 0, .int .i64 0] 23) = v5 at *
  obtain ⟨x00, x01, x02, x03⟩ := TA.out.two
  obtain ⟨x10, x11, x12, x13⟩ := TB.out.two
  obtain ⟨x20, x21, x22, x23⟩ := TS.out.two
  obtain ⟨x30, x31, x32, x33⟩ := TT.out.two
  obtain ⟨x40, x41, x42, x43⟩ := TP.out.two
  obtain ⟨x50, x51, x52, x53⟩ := TQ.out.two
  go_wp2_with fail
  with_reducible refine (cn1 _).mono ?_
  rintro e w9 ⟨rfl, rfl⟩
  go_wp2_with fail
  with_reducible refine (cn1 _).mono ?_
  rintro e w9 ⟨rfl, rfl⟩
  go_wp2_with fail
  with_reducible refine (cn1 _).mono ?_
  rintro e w9 ⟨rfl, rfl⟩
  go_wp2_with fail
  with_reducible refine (cn1 _).mono ?_
  rintro e w9 ⟨rfl, rfl⟩
  go_wp2_with fail
  with_reducible refine (cra _).mono ?_
  rintro e w6 ⟨rfl, hb⟩
  replace TA := Lib.hid (TA.out.keep hb (Nat.le_refl _))
  replace TB := Lib.hid (TB.out.keep hb (Nat.le_refl _))
  replace TS := Lib.hid (TS.out.keep hb (Nat.le_refl _))
  replace TT := Lib.hid (TT.out.keep hb (Nat.le_refl _))
  replace TP := Lib.hid (TP.out.keep hb (Nat.le_refl _))
  replace TQ := Lib.hid (TQ.out.keep hb (Nat.le_refl _))
  replace HB := Lib.hid (bstep HB.out hb (Nat.le_refl _))
  clear hb
  clear x00 x01 x02 x03 x10 x11 x12 x13 x20 x21 x22 x23 x30 x31 x32 x33 x40 x41 x42 x43 x50 x51 x52 x53
  go_wp2_with fail
  with_reducible refine (cn1 _).mono ?_
  rintro e w9 ⟨rfl, rfl⟩
  go_wp2_with fail
  go_ret
  exact ⟨rfl, HB.out⟩

set_option maxRecDepth 100000 in
set_option maxHeartbeats 4000000 in
theorem back_argB (na da nb db : Int) (h1 : In64 na) (h2 : In64 da) (h3 : In64 nb) (h4 : In64 db) (ra : rightB na da = true) (rb : rightB nb db = false)
    (xa1 : sumV na da nb db false = .tuple #[.agg #[.int .i64 0, .int .i64 0], .iface 36 (.int .i64 1)]) (xa2 : sumV nb db na da false = .tuple #[.agg #[.int .i64 0, .int .i64 0], .iface 36 (.int .i64 1)])
    (xm1 : mulV na da nb db = .tuple #[.agg #[.int .i64 0, .int .i64 0], .iface 36 (.int .i64 1)]) (xm2 : mulV nb db na da = .tuple #[.agg #[.int .i64 0, .int .i64 0], .iface 36 (.int .i64 1)]) (w : World) :
    Calls Tryz.prog 41 #[.agg #[.int .i64 na, .int .i64 da], .agg #[.int .i64 nb, .int .i64 db]] w fun e w' => e = .returned (.bool true) ∧ Below w.heap.size w w' := by
  have cw := works_any
  have ca1 := add_any na da nb db h1 h2 h3 h4
  have ca2 := add_any nb db na da h3 h4 h1 h2
  have cm1 := mul_any na da nb db h1 h2 h3 h4
  have cm2 := mul_any nb db na da h3 h4 h1 h2
  rw [xa1] at ca1
  rw [xa2] at ca2
  rw [xm1] at cm1
  rw [xm2] at cm2
  have cra := right_any na da h1 h2
  have crb := right_any nb db h3 h4
  have cn0 := num_nil
  have cn1 := num_errno 1 (by decide) (by decide)
  have cn9 := num_errno 9 (by decide) (by decide)
  rw [ra] at cra
  rw [rb] at crb
  clear xa1 xa2 xm1 xm2 ra rb
  obtain ⟨ta, tb, hsz, hbw⟩ := box2 w #[.int .i64 na, .int .i64 da] #[.int .i64 nb, .int .i64 db] 23 23
  have TA := Lib.hid ta
  have TB := Lib.hid tb
  have HB := Lib.hid hbw
  clear ta tb hsz hbw
  go_enter Tryz.func41, Tryz.ntmps41
  go_wp2_with fail
  with_reducible refine (cw _).mono ?_
  rintro e w1 ⟨rfl, hb⟩
  replace TA := Lib.hid (TA.out.keep hb (Nat.le_refl _))
  replace TB := Lib.hid (TB.out.keep hb (Nat.le_refl _))
  replace HB := Lib.hid (bstep HB.out hb (Nat.le_refl _))
  clear hb
  obtain ⟨x00, x01, x02, x03⟩ := TA.out.two
  obtain ⟨x10, x11, x12, x13⟩ := TB.out.two
  go_wp2_with fail
  with_reducible refine (ca1 _).mono ?_
  rintro e w2 ⟨rfl, hb⟩
  replace TA := Lib.hid (TA.out.keep hb (Nat.le_refl _))
  replace TB := Lib.hid (TB.out.keep hb (Nat.le_refl _))
  replace HB := Lib.hid (bstep HB.out hb (Nat.le_refl _))
  clear hb
  clear x00 x01 x02 x03 x10 x11 x12 x13
  go_upto_region 4 with fail
  obtain ⟨tn, hb⟩ := push1 w2 #[.int .i64 0, .int .i64 0] 23
  have TS := Lib.hid tn
  replace TA := Lib.hid (TA.out.keep hb (Nat.le_refl _))
  replace TB := Lib.hid (TB.out.keep hb (Nat.le_refl _))
  replace HB := Lib.hid (bstep HB.out hb (Nat.le_refl _))
  clear hb tn
  generalize w2.alloc (.cells #[.int .i64 0, .int .i64 0] 23) = v2 at *
  obtain ⟨x00, x01, x02, x03⟩ := TA.out.two
  obtain ⟨x10, x11, x12, x13⟩ := TB.out.two
  go_wp2_with fail
  with_reducible refine (ca2 _).mono ?_
  rintro e w3 ⟨rfl, hb⟩
  replace TA := Lib.hid (TA.out.keep hb (Nat.le_refl _))
  replace TB := Lib.hid (TB.out.keep hb (Nat.le_refl _))
  replace TS := Lib.hid (TS.out.keep hb (Nat.le_refl _))
  replace HB := Lib.hid (bstep HB.out hb (Nat.le_refl _))
  clear hb
  clear x00 x01 x02 x03 x10 x11 x12 x13
  go_upto_region 5 with fail
  obtain ⟨tn, hb⟩ := push1 w3 #[.int .i64 0, .int .i64 0] 23
  have TT := Lib.hid tn
  replace TA := Lib.hid (TA.out.keep hb (Nat.le_refl _))
  replace TB := Lib.hid (TB.out.keep hb (Nat.le_refl _))
  replace TS := Lib.hid (TS.out.keep hb (Nat.le_refl _))
  replace HB := Lib.hid (bstep HB.out hb (Nat.le_refl _))
  clear hb tn
  generalize w3.alloc (.cells #[.int .i64 0, .int .i64 0] 23) = v3 at *
  obtain ⟨x00, x01, x02, x03⟩ := TA.out.two
  obtain ⟨x10, x11, x12, x13⟩ := TB.out.two
  go_wp2_with fail
  with_reducible refine (cm1 _).mono ?_
  rintro e w4 ⟨rfl, hb⟩
  replace TA := Lib.hid (TA.out.keep hb (Nat.le_refl _))
  replace TB := Lib.hid (TB.out.keep hb (Nat.le_refl _))
  replace TS := Lib.hid (TS.out.keep hb (Nat.le_refl _))
  replace TT := Lib.hid (TT.out.keep hb (Nat.le_refl _))
  replace HB := Lib.hid (bstep HB.out hb (Nat.le_refl _))
  clear hb
  clear x00 x01 x02 x03 x10 x11 x12 x13
  go_upto_region 6 with fail
  obtain ⟨tn, hb⟩ := push1 w4 #[.int .i64 0, .int .i64 0] 23
  have TP := Lib.hid tn
  replace TA := Lib.hid (TA.out.keep hb (Nat.le_refl _))
  replace TB := Lib.hid (TB.out.keep hb (Nat.le_refl _))
  replace TS := Lib.hid (TS.out.keep hb (Nat.le_refl _))
  replace TT := Lib.hid (TT.out.keep hb (Nat.le_refl _))
  replace HB := Lib.hid (bstep HB.out hb (Nat.le_refl _))
  clear hb tn
  generalize w4.alloc (.cells #[.int .i64 0, .int .i64 0] 23) = v4 at *
  obtain ⟨x00, x01, x02, x03⟩ := TA.out.two
  obtain ⟨x10, x11, x12, x13⟩ := TB.out.two
  go_wp2_with fail
  with_reducible refine (cm2 _).mono ?_
  rintro e w5 ⟨rfl, hb⟩
  replace TA := Lib.hid (TA.out.keep hb (Nat.le_refl _))
  replace TB := Lib.hid (TB.out.keep hb (Nat.le_refl _))
  replace TS := Lib.hid (TS.out.keep hb (Nat.le_refl _))
  replace TT := Lib.hid (TT.out.keep hb (Nat.le_refl _))
  replace TP := Lib.hid (TP.out.keep hb (Nat.le_refl _))
  replace HB := Lib.hid (bstep HB.out hb (Nat.le_refl _))
  clear hb
  clear x00 x01 x02 x03 x10 x11 x12 x13
  go_upto_region 7 with fail
  obtain ⟨tn, hb⟩ := push1 w5 #[.int .i64 0, .int .i64 0] 23
  have TQ := Lib.hid tn
  replace TA := Lib.hid (TA.out.keep hb (Nat.le_refl _))
  replace TB := Lib.hid (TB.out.keep hb (Nat.le_refl _))
  replace TS := Lib.hid (TS.out.keep hb (Nat.le_refl _))
  replace TT := Lib.hid (TT.out.keep hb (Nat.le_refl _))
  replace TP := Lib.hid (TP.out.keep hb (Nat.le_refl _))
  replace HB := Lib.hid (bstep HB.out hb (Nat.le_refl _))
  clear hb tn
  generalize w5.alloc (.cells #[.int .i64 0, .int .i64 0] 23) = v5 at *
  obtain ⟨x00, x01, x02, x03⟩ := TA.out.two
  obtain ⟨x10, x11, x12, x13⟩ := TB.out.two
  obtain ⟨x20, x21, x22, x23⟩ := TS.out.two
  obtain ⟨x30, x31, x32, x33⟩ := TT.out.two
  obtain ⟨x40, x41, x42, x43⟩ := TP.out.two
  obtain ⟨x50, x51, x52, x53⟩ := TQ.out.two
  go_wp2_with fail
  with_reducible refine (cn1 _).mono ?_
  rintro e w9 ⟨rfl, rfl⟩
  go_wp2_with fail
  with_reducible refine (cn1 _).mono ?_
  rintro e w9 ⟨rfl, rfl⟩
  go_wp2_with fail
  with_reducible refine (cn1 _).mono ?_
  rintro e w9 ⟨rfl, rfl⟩
  go_wp2_with fail
  with_reducible refine (cn1 _).mono ?_
  rintro e w9 ⟨rfl, rfl⟩
  go_wp2_with fail
  with_reducible refine (cra _).mono ?_
  rintro e w6 ⟨rfl, hb⟩
  replace TA := Lib.hid (TA.out.keep hb (Nat.le_refl _))
  replace TB := Lib.hid (TB.out.keep hb (Nat.le_refl _))
  replace TS := Lib.hid (TS.out.keep hb (Nat.le_refl _))
  replace TT := Lib.hid (TT.out.keep hb (Nat.le_refl _))
  replace TP := Lib.hid (TP.out.keep hb (Nat.le_refl _))
  replace TQ := Lib.hid (TQ.out.keep hb (Nat.le_refl _))
  replace HB := Lib.hid (bstep HB.out hb (Nat.le_refl _))
  clear hb
  clear x00 x01 x02 x03 x10 x11 x12 x13 x20 x21 x22 x23 x30 x31 x32 x33 x40 x41 x42 x43 x50 x51 x52 x53
  obtain ⟨x00, x01, x02, x03⟩ := TA.out.two
  obtain ⟨x10, x11, x12, x13⟩ := TB.out.two
  obtain ⟨x20, x21, x22, x23⟩ := TS.out.two
  obtain ⟨x30, x31, x32, x33⟩ := TT.out.two
  obtain ⟨x40, x41, x42, x43⟩ := TP.out.two
  obtain ⟨x50, x51, x52, x53⟩ := TQ.out.two
  go_wp2_with fail
  with_reducible refine (crb _).mono ?_
  rintro e w7 ⟨rfl, hb⟩
  replace TA := Lib.hid (TA.out.keep hb (Nat.le_refl _))
  replace TB := Lib.hid (TB.out.keep hb (Nat.le_refl _))
  replace TS := Lib.hid (TS.out.keep hb (Nat.le_refl _))
  replace TT := Lib.hid (TT.out.keep hb (Nat.le_refl _))
  replace TP := Lib.hid (TP.out.keep hb (Nat.le_refl _))
  replace TQ := Lib.hid (TQ.out.keep hb (Nat.le_refl _))
  replace HB := Lib.hid (bstep HB.out hb (Nat.le_refl _))
  clear hb
  clear x00 x01 x02 x03 x10 x11 x12 x13 x20 x21 x22 x23 x30 x31 x32 x33 x40 x41 x42 x43 x50 x51 x52 x53
  go_wp2_with fail
  with_reducible refine (cn1 _).mono ?_
  rintro e w9 ⟨rfl, rfl⟩
  go_wp2_with fail
  go_ret
  exact ⟨rfl, HB.out⟩

set_option maxRecDepth 100000 in
set_option maxHeartbeats 4000000 in
theorem back_oo (na da nb db : Int) (h1 : In64 na) (h2 : In64 da) (h3 : In64 nb) (h4 : In64 db) (ra : rightB na da = true) (rb : rightB nb db = true)
    (xa1 : sumV na da nb db false = .tuple #[.agg #[.int .i64 0, .int .i64 0], .iface 36 (.int .i64 9)]) (xa2 : sumV nb db na da false = .tuple #[.agg #[.int .i64 0, .int .i64 0], .iface 36 (.int .i64 9)])
    (xm1 : mulV na da nb db = .tuple #[.agg #[.int .i64 0, .int .i64 0], .iface 36 (.int .i64 9)]) (xm2 : mulV nb db na da = .tuple #[.agg #[.int .i64 0, .int .i64 0], .iface 36 (.int .i64 9)]) (w : World) :
    Calls Tryz.prog 41 #[.agg #[.int .i64 na, .int .i64 da], .agg #[.int .i64 nb, .int .i64 db]] w fun e w' => e = .returned (.bool true) ∧ Below w.heap.size w w' := by
  have cw := works_any
  have ca1 := add_any na da nb db h1 h2 h3 h4
  have ca2 := add_any nb db na da h3 h4 h1 h2
  have cm1 := mul_any na da nb db h1 h2 h3 h4
  have cm2 := mul_any nb db na da h3 h4 h1 h2
  rw [xa1] at ca1
  rw [xa2] at ca2
  rw [xm1] at cm1
  rw [xm2] at cm2
  have cra := right_any na da h1 h2
  have crb := right_any nb db h3 h4
  have cn0 := num_nil
  have cn1 := num_errno 1 (by decide) (by decide)
  have cn9 := num_errno 9 (by decide) (by decide)
  rw [ra] at cra
  rw [rb] at crb
  clear xa1 xa2 xm1 xm2 ra rb
  obtain ⟨ta, tb, hsz, hbw⟩ := box2 w #[.int .i64 na, .int .i64 da] #[.int .i64 nb, .int .i64 db] 23 23
  have TA := Lib.hid ta
  have TB := Lib.hid tb
  have HB := Lib.hid hbw
  clear ta tb hsz hbw
  go_enter Tryz.func41, Tryz.ntmps41
  go_wp2_with fail
  with_reducible refine (cw _).mono ?_
  rintro e w1 ⟨rfl, hb⟩
  replace TA := Lib.hid (TA.out.keep hb (Nat.le_refl _))
  replace TB := Lib.hid (TB.out.keep hb (Nat.le_refl _))
  replace HB := Lib.hid (bstep HB.out hb (Nat.le_refl _))
  clear hb
  obtain ⟨x00, x01, x02, x03⟩ := TA.out.two
  obtain ⟨x10, x11, x12, x13⟩ := TB.out.two
  go_wp2_with fail
  with_reducible refine (ca1 _).mono ?_
  rintro e w2 ⟨rfl, hb⟩
  replace TA := Lib.hid (TA.out.keep hb (Nat.le_refl _))
  replace TB := Lib.hid (TB.out.keep hb (Nat.le_refl _))
  replace HB := Lib.hid (bstep HB.out hb (Nat.le_refl _))
  clear hb
  clear x00 x01 x02 x03 x10 x11 x12 x13
  go_upto_region 4 with fail
  obtain ⟨tn, hb⟩ := push1 w2 #[.int .i64 0, .int .i64 0] 23
  have TS := Lib.hid tn
  replace TA := Lib.hid (TA.out.keep hb (Nat.le_refl _))
  replace TB := Lib.hid (TB.out.keep hb (Nat.le_refl _))
  replace HB := Lib.hid (bstep HB.out hb (Nat.le_refl _))
  clear hb tn
  generalize w2.alloc (.cells #[.int .i64 0, .int .i64 0] 23) = v2 at *
  obtain ⟨x00, x01, x02, x03⟩ := TA.out.two
  obtain ⟨x10, x11, x12, x13⟩ := TB.out.two
  go_wp2_with fail
  with_reducible refine (ca2 _).mono ?_
  rintro e w3 ⟨rfl, hb⟩
  replace TA := Lib.hid (TA.out.keep hb (Nat.le_refl _))
  replace TB := Lib.hid (TB.out.keep hb (Nat.le_refl _))
  replace TS := Lib.hid (TS.out.keep hb (Nat.le_refl _))
  replace HB := Lib.hid (bstep HB.out hb (Nat.le_refl _))
  clear hb
  clear x00 x01 x02 x03 x10 x11 x12 x13
  go_upto_region 5 with fail
  obtain ⟨tn, hb⟩ := push1 w3 #[.int .i64 0, .int .i64 0] 23
  have TT := Lib.hid tn
  replace TA := Lib.hid (TA.out.keep hb (Nat.le_refl _))
  replace TB := Lib.hid (TB.out.keep hb (Nat.le_refl _))
  replace TS := Lib.hid (TS.out.keep hb (Nat.le_refl _))
  replace HB := Lib.hid (bstep HB.out hb (Nat.le_refl _))
  clear hb tn
  generalize w3.alloc (.cells #[.int .i64 0, .int .i64 0] 23) = v3 at *
  obtain ⟨x00, x01, x02, x03⟩ := TA.out.two
  obtain ⟨x10, x11, x12, x13⟩ := TB.out.two
  go_wp2_with fail
  with_reducible refine (cm1 _).mono ?_
  rintro e w4 ⟨rfl, hb⟩
  replace TA := Lib.hid (TA.out.keep hb (Nat.le_refl _))
  replace TB := Lib.hid (TB.out.keep hb (Nat.le_refl _))
  replace TS := Lib.hid (TS.out.keep hb (Nat.le_refl _))
  replace TT := Lib.hid (TT.out.keep hb (Nat.le_refl _))
  replace HB := Lib.hid (bstep HB.out hb (Nat.le_refl _))
  clear hb
  clear x00 x01 x02 x03 x10 x11 x12 x13
  go_upto_region 6 with fail
  obtain ⟨tn, hb⟩ := push1 w4 #[.int .i64 0, .int .i64 0] 23
  have TP := Lib.hid tn
  replace TA := Lib.hid (TA.out.keep hb (Nat.le_refl _))
  replace TB := Lib.hid (TB.out.keep hb (Nat.le_refl _))
  replace TS := Lib.hid (TS.out.keep hb (Nat.le_refl _))
  replace TT := Lib.hid (TT.out.keep hb (Nat.le_refl _))
  replace HB := Lib.hid (bstep HB.out hb (Nat.le_refl _))
  clear hb tn
  generalize w4.alloc (.cells #[.int .i64 0, .int .i64 0] 23) = v4 at *
  obtain ⟨x00, x01, x02, x03⟩ := TA.out.two
  obtain ⟨x10, x11, x12, x13⟩ := TB.out.two
  go_wp2_with fail
  with_reducible refine (cm2 _).mono ?_
  rintro e w5 ⟨rfl, hb⟩
  replace TA := Lib.hid (TA.out.keep hb (Nat.le_refl _))
  replace TB := Lib.hid (TB.out.keep hb (Nat.le_refl _))
  replace TS := Lib.hid (TS.out.keep hb (Nat.le_refl _))
  replace TT := Lib.hid (TT.out.keep hb (Nat.le_refl _))
  replace TP := Lib.hid (TP.out.keep hb (Nat.le_refl _))
  replace HB := Lib.hid (bstep HB.out hb (Nat.le_refl _))
  clear hb
  clear x00 x01 x02 x03 x10 x11 x12 x13
  go_upto_region 7 with fail
  obtain ⟨tn, hb⟩ := push1 w5 #[.int .i64 0, .int .i64 0] 23
  have TQ := Lib.hid tn
  replace TA := Lib.hid (TA.out.keep hb (Nat.le_refl _))
  replace TB := Lib.hid (TB.out.keep hb (Nat.le_refl _))
  replace TS := Lib.hid (TS.out.keep hb (Nat.le_refl _))
  replace TT := Lib.hid (TT.out.keep hb (Nat.le_refl _))
  replace TP := Lib.hid (TP.out.keep hb (Nat.le_refl _))
  replace HB := Lib.hid (bstep HB.out hb (Nat.le_refl _))
  clear hb tn
  generalize w5.alloc (.cells #[.int .i64 0, .int .i64 0] 23) = v5 at *
  obtain ⟨x00, x01, x02, x03⟩ := TA.out.two
  obtain ⟨x10, x11, x12, x13⟩ := TB.out.two
  obtain ⟨x20, x21, x22, x23⟩ := TS.out.two
  obtain ⟨x30, x31, x32, x33⟩ := TT.out.two
  obtain ⟨x40, x41, x42, x43⟩ := TP.out.two
  obtain ⟨x50, x51, x52, x53⟩ := TQ.out.two
  go_wp2_with fail
  with_reducible refine (cn9 _).mono ?_
  rintro e w9 ⟨rfl, rfl⟩
  go_wp2_with fail
  with_reducible refine (cn9 _).mono ?_
  rintro e w9 ⟨rfl, rfl⟩
  go_wp2_with fail
  with_reducible refine (cn9 _).mono ?_
  rintro e w9 ⟨rfl, rfl⟩
  go_wp2_with fail
  with_reducible refine (cn9 _).mono ?_
  rintro e w9 ⟨rfl, rfl⟩
  go_wp2_with fail
  with_reducible refine (cra _).mono ?_
  rintro e w6 ⟨rfl, hb⟩
  replace TA := Lib.hid (TA.out.keep hb (Nat.le_refl _))
  replace TB := Lib.hid (TB.out.keep hb (Nat.le_refl _))
  replace TS := Lib.hid (TS.out.keep hb (Nat.le_refl _))
  replace TT := Lib.hid (TT.out.keep hb (Nat.le_refl _))
  replace TP := Lib.hid (TP.out.keep hb (Nat.le_refl _))
  replace TQ := Lib.hid (TQ.out.keep hb (Nat.le_refl _))
  replace HB := Lib.hid (bstep HB.out hb (Nat.le_refl _))
  clear hb
  clear x00 x01 x02 x03 x10 x11 x12 x13 x20 x21 x22 x23 x30 x31 x32 x33 x40 x41 x42 x43 x50 x51 x52 x53
  obtain ⟨x00, x01, x02, x03⟩ := TA.out.two
  obtain ⟨x10, x11, x12, x13⟩ := TB.out.two
  obtain ⟨x20, x21, x22, x23⟩ := TS.out.two
  obtain ⟨x30, x31, x32, x33⟩ := TT.out.two
  obtain ⟨x40, x41, x42, x43⟩ := TP.out.two
  obtain ⟨x50, x51, x52, x53⟩ := TQ.out.two
  go_wp2_with fail
  with_reducible refine (crb _).mono ?_
  rintro e w7 ⟨rfl, hb⟩
  replace TA := Lib.hid (TA.out.keep hb (Nat.le_refl _))
  replace TB := Lib.hid (TB.out.keep hb (Nat.le_refl _))
  replace TS := Lib.hid (TS.out.keep hb (Nat.le_refl _))
  replace TT := Lib.hid (TT.out.keep hb (Nat.le_refl _))
  replace TP := Lib.hid (TP.out.keep hb (Nat.le_refl _))
  replace TQ := Lib.hid (TQ.out.keep hb (Nat.le_refl _))
  replace HB := Lib.hid (bstep HB.out hb (Nat.le_refl _))
  clear hb
  clear x00 x01 x02 x03 x10 x11 x12 x13 x20 x21 x22 x23 x30 x31 x32 x33 x40 x41 x42 x43 x50 x51 x52 x53
  go_wp2_with fail
  with_reducible refine (cn9 _).mono ?_
  rintro e w9 ⟨rfl, rfl⟩
  go_wp2_with fail
  go_ret
  exact ⟨rfl, HB.out⟩

set_option maxRecDepth 100000 in
set_option maxHeartbeats 4000000 in
theorem back_ok0 (na da nb db : Int) (h1 : In64 na) (h2 : In64 da) (h3 : In64 nb) (h4 : In64 db) (n d : Int) (hn : In64 n) (hd : In64 d) (xs : sumV n d nb db true = .tuple #[.agg #[.int .i64 na, .int .i64 da], .nilIface]) (ra : rightB na da = true) (rb : rightB nb db = true)
    (xa1 : sumV na da nb db false = .tuple #[.agg #[.int .i64 n, .int .i64 d], .nilIface]) (xa2 : sumV nb db na da false = .tuple #[.agg #[.int .i64 n, .int .i64 d], .nilIface])
    (xm1 : mulV na da nb db = .tuple #[.agg #[.int .i64 0, .int .i64 0], .iface 36 (.int .i64 9)]) (xm2 : mulV nb db na da = .tuple #[.agg #[.int .i64 0, .int .i64 0], .iface 36 (.int .i64 9)]) (w : World) :
    Calls Tryz.prog 41 #[.agg #[.int .i64 na, .int .i64 da], .agg #[.int .i64 nb, .int .i64 db]] w fun e w' => e = .returned (.bool true) ∧ Below w.heap.size w w' := by
  have cw := works_any
  have ca1 := add_any na da nb db h1 h2 h3 h4
  have ca2 := add_any nb db na da h3 h4 h1 h2
  have cm1 := mul_any na da nb db h1 h2 h3 h4
  have cm2 := mul_any nb db na da h3 h4 h1 h2
  rw [xa1] at ca1
  rw [xa2] at ca2
  rw [xm1] at cm1
  rw [xm2] at cm2
  have cra := right_any na da h1 h2
  have crb := right_any nb db h3 h4
  have cn0 := num_nil
  have cn1 := num_errno 1 (by decide) (by decide)
  have cn9 := num_errno 9 (by decide) (by decide)
  rw [ra] at cra
  rw [rb] at crb
  have cs := sub_any n d nb db hn hd h3 h4
  rw [xs] at cs
  clear xa1 xa2 xm1 xm2 xs ra rb
  obtain ⟨ta, tb, hsz, hbw⟩ := box2 w #[.int .i64 na, .int .i64 da] #[.int .i64 nb, .int .i64 db] 23 23
  have TA := Lib.hid ta
  have TB := Lib.hid tb
  have HB := Lib.hid hbw
  clear ta tb hsz hbw
  go_enter Tryz.func41, Tryz.ntmps41
  go_wp2_with fail
  with_reducible refine (cw _).mono ?_
  rintro e w1 ⟨rfl, hb⟩
  replace TA := Lib.hid (TA.out.keep hb (Nat.le_refl _))
  replace TB := Lib.hid (TB.out.keep hb (Nat.le_refl _))
  replace HB := Lib.hid (bstep HB.out hb (Nat.le_refl _))
  clear hb
  obtain ⟨x00, x01, x02, x03⟩ := TA.out.two
  obtain ⟨x10, x11, x12, x13⟩ := TB.out.two
  go_wp2_with fail
  with_reducible refine (ca1 _).mono ?_
  rintro e w2 ⟨rfl, hb⟩
  replace TA := Lib.hid (TA.out.keep hb (Nat.le_refl _))
  replace TB := Lib.hid (TB.out.keep hb (Nat.le_refl _))
  replace HB := Lib.hid (bstep HB.out hb (Nat.le_refl _))
  clear hb
  clear x00 x01 x02 x03 x10 x11 x12 x13
  go_upto_region 4 with fail
  obtain ⟨tn, hb⟩ := push1 w2 #[.int .i64 n, .int .i64 d] 23
  have TS := Lib.hid tn
  replace TA := Lib.hid (TA.out.keep hb (Nat.le_refl _))
  replace TB := Lib.hid (TB.out.keep hb (Nat.le_refl _))
  replace HB := Lib.hid (bstep HB.out hb (Nat.le_refl _))
  clear hb tn
  generalize w2.alloc (.cells #[.int .i64 n, .int .i64 d] 23) = v2 at *
  obtain ⟨x00, x01, x02, x03⟩ := TA.out.two
  obtain ⟨x10, x11, x12, x13⟩ := TB.out.two
  go_wp2_with fail
  with_reducible refine (ca2 _).mono ?_
  rintro e w3 ⟨rfl, hb⟩
  replace TA := Lib.hid (TA.out.keep hb (Nat.le_refl _))
  replace TB := Lib.hid (TB.out.keep hb (Nat.le_refl _))
  replace TS := Lib.hid (TS.out.keep hb (Nat.le_refl _))
  replace HB := Lib.hid (bstep HB.out hb (Nat.le_refl _))
  clear hb
  clear x00 x01 x02 x03 x10 x11 x12 x13
  go_upto_region 5 with fail
  obtain ⟨tn, hb⟩ := push1 w3 #[.int .i64 n, .int .i64 d] 23
  have TT := Lib.hid tn
  replace TA := Lib.hid (TA.out.keep hb (Nat.le_refl _))
  replace TB := Lib.hid (TB.out.keep hb (Nat.le_refl _))
  replace TS := Lib.hid (TS.out.keep hb (Nat.le_refl _))
  replace HB := Lib.hid (bstep HB.out hb (Nat.le_refl _))
  clear hb tn
  generalize w3.alloc (.cells #[.int .i64 n, .int .i64 d] 23) = v3 at *
  obtain ⟨x00, x01, x02, x03⟩ := TA.out.two
  obtain ⟨x10, x11, x12, x13⟩ := TB.out.two
  go_wp2_with fail
  with_reducible refine (cm1 _).mono ?_
  rintro e w4 ⟨rfl, hb⟩
  replace TA := Lib.hid (TA.out.keep hb (Nat.le_refl _))
  replace TB := Lib.hid (TB.out.keep hb (Nat.le_refl _))
  replace TS := Lib.hid (TS.out.keep hb (Nat.le_refl _))
  replace TT := Lib.hid (TT.out.keep hb (Nat.le_refl _))
  replace HB := Lib.hid (bstep HB.out hb (Nat.le_refl _))
  clear hb
  clear x00 x01 x02 x03 x10 x11 x12 x13
  go_upto_region 6 with fail
  obtain ⟨tn, hb⟩ := push1 w4 #[.int .i64 0, .int .i64 0] 23
  have TP := Lib.hid tn
  replace TA := Lib.hid (TA.out.keep hb (Nat.le_refl _))
  replace TB := Lib.hid (TB.out.keep hb (Nat.le_refl _))
  replace TS := Lib.hid (TS.out.keep hb (Nat.le_refl _))
  replace TT := Lib.hid (TT.out.keep hb (Nat.le_refl _))
  replace HB := Lib.hid (bstep HB.out hb (Nat.le_refl _))
  clear hb tn
  generalize w4.alloc (.cells #[.int .i64 0, .int .i64 0] 23) = v4 at *
  obtain ⟨x00, x01, x02, x03⟩ := TA.out.two
  obtain ⟨x10, x11, x12, x13⟩ := TB.out.two
  go_wp2_with fail
  with_reducible refine (cm2 _).mono ?_
  rintro e w5 ⟨rfl, hb⟩
  replace TA := Lib.hid (TA.out.keep hb (Nat.le_refl _))
  replace TB := Lib.hid (TB.out.keep hb (Nat.le_refl _))
  replace TS := Lib.hid (TS.out.keep hb (Nat.le_refl _))
  replace TT := Lib.hid (TT.out.keep hb (Nat.le_refl _))
  replace TP := Lib.hid (TP.out.keep hb (Nat.le_refl _))
  replace HB := Lib.hid (bstep HB.out hb (Nat.le_refl _))
  clear hb
  clear x00 x01 x02 x03 x10 x11 x12 x13
  go_upto_region 7 with fail
  obtain ⟨tn, hb⟩ := push1 w5 #[.int .i64 0, .int .i64 0] 23
  have TQ := Lib.hid tn
  replace TA := Lib.hid (TA.out.keep hb (Nat.le_refl _))
  replace TB := Lib.hid (TB.out.keep hb (Nat.le_refl _))
  replace TS := Lib.hid (TS.out.keep hb (Nat.le_refl _))
  replace TT := Lib.hid (TT.out.keep hb (Nat.le_refl _))
  replace TP := Lib.hid (TP.out.keep hb (Nat.le_refl _))
  replace HB := Lib.hid (bstep HB.out hb (Nat.le_refl _))
  clear hb tn
  generalize w5.alloc (.cells #[.int .i64 0, .int .i64 0] 23) = v5 at *
  obtain ⟨x00, x01, x02, x03⟩ := TA.out.two
  obtain ⟨x10, x11, x12, x13⟩ := TB.out.two
  obtain ⟨x20, x21, x22, x23⟩ := TS.out.two
  obtain ⟨x30, x31, x32, x33⟩ := TT.out.two
  obtain ⟨x40, x41, x42, x43⟩ := TP.out.two
  obtain ⟨x50, x51, x52, x53⟩ := TQ.out.two
  go_wp2_with fail
  with_reducible refine (cn0 _).mono ?_
  rintro e w9 ⟨rfl, rfl⟩
  go_wp2_with fail
  with_reducible refine (cn0 _).mono ?_
  rintro e w9 ⟨rfl, rfl⟩
  go_wp2_with fail
  with_reducible refine (cn9 _).mono ?_
  rintro e w9 ⟨rfl, rfl⟩
  go_wp2_with fail
  with_reducible refine (cn9 _).mono ?_
  rintro e w9 ⟨rfl, rfl⟩
  go_wp2_with fail
  with_reducible refine (cs _).mono ?_
  rintro e w6 ⟨rfl, hb⟩
  replace TA := Lib.hid (TA.out.keep hb (Nat.le_refl _))
  replace TB := Lib.hid (TB.out.keep hb (Nat.le_refl _))
  replace TS := Lib.hid (TS.out.keep hb (Nat.le_refl _))
  replace TT := Lib.hid (TT.out.keep hb (Nat.le_refl _))
  replace TP := Lib.hid (TP.out.keep hb (Nat.le_refl _))
  replace TQ := Lib.hid (TQ.out.keep hb (Nat.le_refl _))
  replace HB := Lib.hid (bstep HB.out hb (Nat.le_refl _))
  clear hb
  clear x00 x01 x02 x03 x10 x11 x12 x13 x20 x21 x22 x23 x30 x31 x32 x33 x40 x41 x42 x43 x50 x51 x52 x53
  go_upto_region 11 with fail
  obtain ⟨tn, hb⟩ := push1 w6 #[.int .i64 na, .int .i64 da] 23
  have TC := Lib.hid tn
  replace TA := Lib.hid (TA.out.keep hb (Nat.le_refl _))
  replace TB := Lib.hid (TB.out.keep hb (Nat.le_refl _))
  replace TS := Lib.hid (TS.out.keep hb (Nat.le_refl _))
  replace TT := Lib.hid (TT.out.keep hb (Nat.le_refl _))
  replace TP := Lib.hid (TP.out.keep hb (Nat.le_refl _))
  replace TQ := Lib.hid (TQ.out.keep hb (Nat.le_refl _))
  replace HB := Lib.hid (bstep HB.out hb (Nat.le_refl _))
  clear hb tn
  generalize w6.alloc (.cells #[.int .i64 na, .int .i64 da] 23) = v6 at *
  obtain ⟨x00, x01, x02, x03⟩ := TA.out.two
  obtain ⟨x10, x11, x12, x13⟩ := TB.out.two
  obtain ⟨x20, x21, x22, x23⟩ := TS.out.two
  obtain ⟨x30, x31, x32, x33⟩ := TT.out.two
  obtain ⟨x40, x41, x42, x43⟩ := TP.out.two
  obtain ⟨x50, x51, x52, x53⟩ := TQ.out.two
  obtain ⟨x60, x61, x62, x63⟩ := TC.out.two
  go_wp2_with fail
  with_reducible refine (cra _).mono ?_
  rintro e w7 ⟨rfl, hb⟩
  replace TA := Lib.hid (TA.out.keep hb (Nat.le_refl _))
  replace TB := Lib.hid (TB.out.keep hb (Nat.le_refl _))
  replace TS := Lib.hid (TS.out.keep hb (Nat.le_refl _))
  replace TT := Lib.hid (TT.out.keep hb (Nat.le_refl _))
  replace TP := Lib.hid (TP.out.keep hb (Nat.le_refl _))
  replace TQ := Lib.hid (TQ.out.keep hb (Nat.le_refl _))
  replace TC := Lib.hid (TC.out.keep hb (Nat.le_refl _))
  replace HB := Lib.hid (bstep HB.out hb (Nat.le_refl _))
  clear hb
  clear x00 x01 x02 x03 x10 x11 x12 x13 x20 x21 x22 x23 x30 x31 x32 x33 x40 x41 x42 x43 x50 x51 x52 x53 x60 x61 x62 x63
  obtain ⟨x00, x01, x02, x03⟩ := TA.out.two
  obtain ⟨x10, x11, x12, x13⟩ := TB.out.two
  obtain ⟨x20, x21, x22, x23⟩ := TS.out.two
  obtain ⟨x30, x31, x32, x33⟩ := TT.out.two
  obtain ⟨x40, x41, x42, x43⟩ := TP.out.two
  obtain ⟨x50, x51, x52, x53⟩ := TQ.out.two
  obtain ⟨x60, x61, x62, x63⟩ := TC.out.two
  go_wp2_with fail
  with_reducible refine (crb _).mono ?_
  rintro e w8 ⟨rfl, hb⟩
  replace TA := Lib.hid (TA.out.keep hb (Nat.le_refl _))
  replace TB := Lib.hid (TB.out.keep hb (Nat.le_refl _))
  replace TS := Lib.hid (TS.out.keep hb (Nat.le_refl _))
  replace TT := Lib.hid (TT.out.keep hb (Nat.le_refl _))
  replace TP := Lib.hid (TP.out.keep hb (Nat.le_refl _))
  replace TQ := Lib.hid (TQ.out.keep hb (Nat.le_refl _))
  replace TC := Lib.hid (TC.out.keep hb (Nat.le_refl _))
  replace HB := Lib.hid (bstep HB.out hb (Nat.le_refl _))
  clear hb
  clear x00 x01 x02 x03 x10 x11 x12 x13 x20 x21 x22 x23 x30 x31 x32 x33 x40 x41 x42 x43 x50 x51 x52 x53 x60 x61 x62 x63
  go_wp2_with fail
  with_reducible refine (cn0 _).mono ?_
  rintro e w9 ⟨rfl, rfl⟩
  go_wp2_with fail
  go_ret
  exact ⟨rfl, HB.out⟩

set_option maxRecDepth 100000 in
set_option maxHeartbeats 4000000 in
theorem back_0k (na da nb db : Int) (h1 : In64 na) (h2 : In64 da) (h3 : In64 nb) (h4 : In64 db) (p q : Int) (hp : In64 p) (hq : In64 q) (xd : divV p q nb db = .tuple #[.agg #[.int .i64 na, .int .i64 da], .nilIface]) (hnb : nb ≠ 0) (ra : rightB na da = true) (rb : rightB nb db = true)
    (xa1 : sumV na da nb db false = .tuple #[.agg #[.int .i64 0, .int .i64 0], .iface 36 (.int .i64 9)]) (xa2 : sumV nb db na da false = .tuple #[.agg #[.int .i64 0, .int .i64 0], .iface 36 (.int .i64 9)])
    (xm1 : mulV na da nb db = .tuple #[.agg #[.int .i64 p, .int .i64 q], .nilIface]) (xm2 : mulV nb db na da = .tuple #[.agg #[.int .i64 p, .int .i64 q], .nilIface]) (w : World) :
    Calls Tryz.prog 41 #[.agg #[.int .i64 na, .int .i64 da], .agg #[.int .i64 nb, .int .i64 db]] w fun e w' => e = .returned (.bool true) ∧ Below w.heap.size w w' := by
  have cw := works_any
  have ca1 := add_any na da nb db h1 h2 h3 h4
  have ca2 := add_any nb db na da h3 h4 h1 h2
  have cm1 := mul_any na da nb db h1 h2 h3 h4
  have cm2 := mul_any nb db na da h3 h4 h1 h2
  rw [xa1] at ca1
  rw [xa2] at ca2
  rw [xm1] at cm1
  rw [xm2] at cm2
  have cra := right_any na da h1 h2
  have crb := right_any nb db h3 h4
  have cn0 := num_nil
  have cn1 := num_errno 1 (by decide) (by decide)
  have cn9 := num_errno 9 (by decide) (by decide)
  rw [ra] at cra
  rw [rb] at crb
  have cd := div_any p q nb db hp hq h3 h4
  rw [xd] at cd
  have hz : (nb != 0) = true := by rw [bne_iff_ne]; exact hnb
  clear hnb xd
  clear xa1 xa2 xm1 xm2 ra rb
  obtain ⟨ta, tb, hsz, hbw⟩ := box2 w #[.int .i64 na, .int .i64 da] #[.int .i64 nb, .int .i64 db] 23 23
  have TA := Lib.hid ta
  have TB := Lib.hid tb
  have HB := Lib.hid hbw
  clear ta tb hsz hbw
  go_enter Tryz.func41, Tryz.ntmps41
  go_wp2_with fail
  with_reducible refine (cw _).mono ?_
  rintro e w1 ⟨rfl, hb⟩
  replace TA := Lib.hid (TA.out.keep hb (Nat.le_refl _))
  replace TB := Lib.hid (TB.out.keep hb (Nat.le_refl _))
  replace HB := Lib.hid (bstep HB.out hb (Nat.le_refl _))
  clear hb
  obtain ⟨x00, x01, x02, x03⟩ := TA.out.two
  obtain ⟨x10, x11, x12, x13⟩ := TB.out.two
  go_wp2_with fail
  with_reducible refine (ca1 _).mono ?_
  rintro e w2 ⟨rfl, hb⟩
  replace TA := Lib.hid (TA.out.keep hb (Nat.le_refl _))
  replace TB := Lib.hid (TB.out.keep hb (Nat.le_refl _))
  replace HB := Lib.hid (bstep HB.out hb (Nat.le_refl _))
  clear hb
  clear x00 x01 x02 x03 x10 x11 x12 x13
  go_upto_region 4 with fail
  obtain ⟨tn, hb⟩ := push1 w2 #[.int .i64 0, .int .i64 0] 23
  have TS := Lib.hid tn
  replace TA := Lib.hid (TA.out.keep hb (Nat.le_refl _))
  replace TB := Lib.hid (TB.out.keep hb (Nat.le_refl _))
  replace HB := Lib.hid (bstep HB.out hb (Nat.le_refl _))
  clear hb tn
  generalize w2.alloc (.cells #[.int .i64 0, .int .i64 0] 23) = v2 at *
  obtain ⟨x00, x01, x02, x03⟩ := TA.out.two
  obtain ⟨x10, x11, x12, x13⟩ := TB.out.two
  go_wp2_with fail
  with_reducible refine (ca2 _).mono ?_
  rintro e w3 ⟨rfl, hb⟩
  replace TA := Lib.hid (TA.out.keep hb (Nat.le_refl _))
  replace TB := Lib.hid (TB.out.keep hb (Nat.le_refl _))
  replace TS := Lib.hid (TS.out.keep hb (Nat.le_refl _))
  replace HB := Lib.hid (bstep HB.out hb (Nat.le_refl _))
  clear hb
  clear x00 x01 x02 x03 x10 x11 x12 x13
  go_upto_region 5 with fail
  obtain ⟨tn, hb⟩ := push1 w3 #[.int .i64 0, .int .i64 0] 23
  have TT := Lib.hid tn
  replace TA := Lib.hid (TA.out.keep hb (Nat.le_refl _))
  replace TB := Lib.hid (TB.out.keep hb (Nat.le_refl _))
  replace TS := Lib.hid (TS.out.keep hb (Nat.le_refl _))
  replace HB := Lib.hid (bstep HB.out hb (Nat.le_refl _))
  clear hb tn
  generalize w3.alloc (.cells #[.int .i64 0, .int .i64 0] 23) = v3 at *
  obtain ⟨x00, x01, x02, x03⟩ := TA.out.two
  obtain ⟨x10, x11, x12, x13⟩ := TB.out.two
  go_wp2_with fail
  with_reducible refine (cm1 _).mono ?_
  rintro e w4 ⟨rfl, hb⟩
  replace TA := Lib.hid (TA.out.keep hb (Nat.le_refl _))
  replace TB := Lib.hid (TB.out.keep hb (Nat.le_refl _))
  replace TS := Lib.hid (TS.out.keep hb (Nat.le_refl _))
  replace TT := Lib.hid (TT.out.keep hb (Nat.le_refl _))
  replace HB := Lib.hid (bstep HB.out hb (Nat.le_refl _))
  clear hb
  clear x00 x01 x02 x03 x10 x11 x12 x13
  go_upto_region 6 with fail
  obtain ⟨tn, hb⟩ := push1 w4 #[.int .i64 p, .int .i64 q] 23
  have TP := Lib.hid tn
  replace TA := Lib.hid (TA.out.keep hb (Nat.le_refl _))
  replace TB := Lib.hid (TB.out.keep hb (Nat.le_refl _))
  replace TS := Lib.hid (TS.out.keep hb (Nat.le_refl _))
  replace TT := Lib.hid (TT.out.keep hb (Nat.le_refl _))
  replace HB := Lib.hid (bstep HB.out hb (Nat.le_refl _))
  clear hb tn
  generalize w4.alloc (.cells #[.int .i64 p, .int .i64 q] 23) = v4 at *
  obtain ⟨x00, x01, x02, x03⟩ := TA.out.two
  obtain ⟨x10, x11, x12, x13⟩ := TB.out.two
  go_wp2_with fail
  with_reducible refine (cm2 _).mono ?_
  rintro e w5 ⟨rfl, hb⟩
  replace TA := Lib.hid (TA.out.keep hb (Nat.le_refl _))
  replace TB := Lib.hid (TB.out.keep hb (Nat.le_refl _))
  replace TS := Lib.hid (TS.out.keep hb (Nat.le_refl _))
  replace TT := Lib.hid (TT.out.keep hb (Nat.le_refl _))
  replace TP := Lib.hid (TP.out.keep hb (Nat.le_refl _))
  replace HB := Lib.hid (bstep HB.out hb (Nat.le_refl _))
  clear hb
  clear x00 x01 x02 x03 x10 x11 x12 x13
  go_upto_region 7 with fail
  obtain ⟨tn, hb⟩ := push1 w5 #[.int .i64 p, .int .i64 q] 23
  have TQ := Lib.hid tn
  replace TA := Lib.hid (TA.out.keep hb (Nat.le_refl _))
  replace TB := Lib.hid (TB.out.keep hb (Nat.le_refl _))
  replace TS := Lib.hid (TS.out.keep hb (Nat.le_refl _))
  replace TT := Lib.hid (TT.out.keep hb (Nat.le_refl _))
  replace TP := Lib.hid (TP.out.keep hb (Nat.le_refl _))
  replace HB := Lib.hid (bstep HB.out hb (Nat.le_refl _))
  clear hb tn
  generalize w5.alloc (.cells #[.int .i64 p, .int .i64 q] 23) = v5 at *
  obtain ⟨x00, x01, x02, x03⟩ := TA.out.two
  obtain ⟨x10, x11, x12, x13⟩ := TB.out.two
  obtain ⟨x20, x21, x22, x23⟩ := TS.out.two
  obtain ⟨x30, x31, x32, x33⟩ := TT.out.two
  obtain ⟨x40, x41, x42, x43⟩ := TP.out.two
  obtain ⟨x50, x51, x52, x53⟩ := TQ.out.two
  go_wp2_with fail
  with_reducible refine (cn9 _).mono ?_
  rintro e w9 ⟨rfl, rfl⟩
  go_wp2_with fail
  with_reducible refine (cn9 _).mono ?_
  rintro e w9 ⟨rfl, rfl⟩
  go_wp2_with fail
  with_reducible refine (cn0 _).mono ?_
  rintro e w9 ⟨rfl, rfl⟩
  go_wp2_with fail
  with_reducible refine (cn0 _).mono ?_
  rintro e w9 ⟨rfl, rfl⟩
  go_wp2_with fail
  with_reducible refine (cd _).mono ?_
  rintro e w6 ⟨rfl, hb⟩
  replace TA := Lib.hid (TA.out.keep hb (Nat.le_refl _))
  replace TB := Lib.hid (TB.out.keep hb (Nat.le_refl _))
  replace TS := Lib.hid (TS.out.keep hb (Nat.le_refl _))
  replace TT := Lib.hid (TT.out.keep hb (Nat.le_refl _))
  replace TP := Lib.hid (TP.out.keep hb (Nat.le_refl _))
  replace TQ := Lib.hid (TQ.out.keep hb (Nat.le_refl _))
  replace HB := Lib.hid (bstep HB.out hb (Nat.le_refl _))
  clear hb
  clear x00 x01 x02 x03 x10 x11 x12 x13 x20 x21 x22 x23 x30 x31 x32 x33 x40 x41 x42 x43 x50 x51 x52 x53
  go_upto_region 15 with fail
  obtain ⟨tn, hb⟩ := push1 w6 #[.int .i64 na, .int .i64 da] 23
  have TD := Lib.hid tn
  replace TA := Lib.hid (TA.out.keep hb (Nat.le_refl _))
  replace TB := Lib.hid (TB.out.keep hb (Nat.le_refl _))
  replace TS := Lib.hid (TS.out.keep hb (Nat.le_refl _))
  replace TT := Lib.hid (TT.out.keep hb (Nat.le_refl _))
  replace TP := Lib.hid (TP.out.keep hb (Nat.le_refl _))
  replace TQ := Lib.hid (TQ.out.keep hb (Nat.le_refl _))
  replace HB := Lib.hid (bstep HB.out hb (Nat.le_refl _))
  clear hb tn
  generalize w6.alloc (.cells #[.int .i64 na, .int .i64 da] 23) = v6 at *
  obtain ⟨x00, x01, x02, x03⟩ := TA.out.two
  obtain ⟨x10, x11, x12, x13⟩ := TB.out.two
  obtain ⟨x20, x21, x22, x23⟩ := TS.out.two
  obtain ⟨x30, x31, x32, x33⟩ := TT.out.two
  obtain ⟨x40, x41, x42, x43⟩ := TP.out.two
  obtain ⟨x50, x51, x52, x53⟩ := TQ.out.two
  obtain ⟨x60, x61, x62, x63⟩ := TD.out.two
  go_wp2_with fail
  with_reducible refine (cra _).mono ?_
  rintro e w7 ⟨rfl, hb⟩
  replace TA := Lib.hid (TA.out.keep hb (Nat.le_refl _))
  replace TB := Lib.hid (TB.out.keep hb (Nat.le_refl _))
  replace TS := Lib.hid (TS.out.keep hb (Nat.le_refl _))
  replace TT := Lib.hid (TT.out.keep hb (Nat.le_refl _))
  replace TP := Lib.hid (TP.out.keep hb (Nat.le_refl _))
  replace TQ := Lib.hid (TQ.out.keep hb (Nat.le_refl _))
  replace TD := Lib.hid (TD.out.keep hb (Nat.le_refl _))
  replace HB := Lib.hid (bstep HB.out hb (Nat.le_refl _))
  clear hb
  clear x00 x01 x02 x03 x10 x11 x12 x13 x20 x21 x22 x23 x30 x31 x32 x33 x40 x41 x42 x43 x50 x51 x52 x53 x60 x61 x62 x63
  obtain ⟨x00, x01, x02, x03⟩ := TA.out.two
  obtain ⟨x10, x11, x12, x13⟩ := TB.out.two
  obtain ⟨x20, x21, x22, x23⟩ := TS.out.two
  obtain ⟨x30, x31, x32, x33⟩ := TT.out.two
  obtain ⟨x40, x41, x42, x43⟩ := TP.out.two
  obtain ⟨x50, x51, x52, x53⟩ := TQ.out.two
  obtain ⟨x60, x61, x62, x63⟩ := TD.out.two
  go_wp2_with fail
  with_reducible refine (crb _).mono ?_
  rintro e w8 ⟨rfl, hb⟩
  replace TA := Lib.hid (TA.out.keep hb (Nat.le_refl _))
  replace TB := Lib.hid (TB.out.keep hb (Nat.le_refl _))
  replace TS := Lib.hid (TS.out.keep hb (Nat.le_refl _))
  replace TT := Lib.hid (TT.out.keep hb (Nat.le_refl _))
  replace TP := Lib.hid (TP.out.keep hb (Nat.le_refl _))
  replace TQ := Lib.hid (TQ.out.keep hb (Nat.le_refl _))
  replace TD := Lib.hid (TD.out.keep hb (Nat.le_refl _))
  replace HB := Lib.hid (bstep HB.out hb (Nat.le_refl _))
  clear hb
  clear x00 x01 x02 x03 x10 x11 x12 x13 x20 x21 x22 x23 x30 x31 x32 x33 x40 x41 x42 x43 x50 x51 x52 x53 x60 x61 x62 x63
  go_wp2_with fail
  with_reducible refine (cn9 _).mono ?_
  rintro e w9 ⟨rfl, rfl⟩
  go_wp2_with fail
  go_ret
  exact ⟨rfl, HB.out⟩

set_option maxRecDepth 100000 in
set_option maxHeartbeats 4000000 in
theorem back_0z (na da nb db : Int) (h1 : In64 na) (h2 : In64 da) (h3 : In64 nb) (h4 : In64 db) (p q : Int) (hp : In64 p) (hq : In64 q) (hnb : nb = 0) (ra : rightB na da = true) (rb : rightB nb db = true)
    (xa1 : sumV na da nb db false = .tuple #[.agg #[.int .i64 0, .int .i64 0], .iface 36 (.int .i64 9)]) (xa2 : sumV nb db na da false = .tuple #[.agg #[.int .i64 0, .int .i64 0], .iface 36 (.int .i64 9)])
    (xm1 : mulV na da nb db = .tuple #[.agg #[.int .i64 p, .int .i64 q], .nilIface]) (xm2 : mulV nb db na da = .tuple #[.agg #[.int .i64 p, .int .i64 q], .nilIface]) (w : World) :
    Calls Tryz.prog 41 #[.agg #[.int .i64 na, .int .i64 da], .agg #[.int .i64 nb, .int .i64 db]] w fun e w' => e = .returned (.bool true) ∧ Below w.heap.size w w' := by
  have cw := works_any
  have ca1 := add_any na da nb db h1 h2 h3 h4
  have ca2 := add_any nb db na da h3 h4 h1 h2
  have cm1 := mul_any na da nb db h1 h2 h3 h4
  have cm2 := mul_any nb db na da h3 h4 h1 h2
  rw [xa1] at ca1
  rw [xa2] at ca2
  rw [xm1] at cm1
  rw [xm2] at cm2
  have cra := right_any na da h1 h2
  have crb := right_any nb db h3 h4
  have cn0 := num_nil
  have cn1 := num_errno 1 (by decide) (by decide)
  have cn9 := num_errno 9 (by decide) (by decide)
  rw [ra] at cra
  rw [rb] at crb
  have hz : (nb != 0) = false := by rw [hnb]; rfl
  clear hnb
  clear xa1 xa2 xm1 xm2 ra rb
  obtain ⟨ta, tb, hsz, hbw⟩ := box2 w #[.int .i64 na, .int .i64 da] #[.int .i64 nb, .int .i64 db] 23 23
  have TA := Lib.hid ta
  have TB := Lib.hid tb
  have HB := Lib.hid hbw
  clear ta tb hsz hbw
  go_enter Tryz.func41, Tryz.ntmps41
  go_wp2_with fail
  with_reducible refine (cw _).mono ?_
  rintro e w1 ⟨rfl, hb⟩
  replace TA := Lib.hid (TA.out.keep hb (Nat.le_refl _))
  replace TB := Lib.hid (TB.out.keep hb (Nat.le_refl _))
  replace HB := Lib.hid (bstep HB.out hb (Nat.le_refl _))
  clear hb
  obtain ⟨x00, x01, x02, x03⟩ := TA.out.two
  obtain ⟨x10, x11, x12, x13⟩ := TB.out.two
  go_wp2_with fail
  with_reducible refine (ca1 _).mono ?_
  rintro e w2 ⟨rfl, hb⟩
  replace TA := Lib.hid (TA.out.keep hb (Nat.le_refl _))
  replace TB := Lib.hid (TB.out.keep hb (Nat.le_refl _))
  replace HB := Lib.hid (bstep HB.out hb (Nat.le_refl _))
  clear hb
  clear x00 x01 x02 x03 x10 x11 x12 x13
  go_upto_region 4 with fail
  obtain ⟨tn, hb⟩ := push1 w2 #[.int .i64 0, .int .i64 0] 23
  have TS := Lib.hid tn
  replace TA := Lib.hid (TA.out.keep hb (Nat.le_refl _))
  replace TB := Lib.hid (TB.out.keep hb (Nat.le_refl _))
  replace HB := Lib.hid (bstep HB.out hb (Nat.le_refl _))
  clear hb tn
  generalize w2.alloc (.cells #[.int .i64 0, .int .i64 0] 23) = v2 at *
  obtain ⟨x00, x01, x02, x03⟩ := TA.out.two
  obtain ⟨x10, x11, x12, x13⟩ := TB.out.two
  go_wp2_with fail
  with_reducible refine (ca2 _).mono ?_
  rintro e w3 ⟨rfl, hb⟩
  replace TA := Lib.hid (TA.out.keep hb (Nat.le_refl _))
  replace TB := Lib.hid (TB.out.keep hb (Nat.le_refl _))
  replace TS := Lib.hid (TS.out.keep hb (Nat.le_refl _))
  replace HB := Lib.hid (bstep HB.out hb (Nat.le_refl _))
  clear hb
  clear x00 x01 x02 x03 x10 x11 x12 x13
  go_upto_region 5 with fail
  obtain ⟨tn, hb⟩ := push1 w3 #[.int .i64 0, .int .i64 0] 23
  have TT := Lib.hid tn
  replace TA := Lib.hid (TA.out.keep hb (Nat.le_refl _))
  replace TB := Lib.hid (TB.out.keep hb (Nat.le_refl _))
  replace TS := Lib.hid (TS.out.keep hb (Nat.le_refl _))
  replace HB := Lib.hid (bstep HB.out hb (Nat.le_refl _))
  clear hb tn
  generalize w3.alloc (.cells #[.int .i64 0, .int .i64 0] 23) = v3 at *
  obtain ⟨x00, x01, x02, x03⟩ := TA.out.two
  obtain ⟨x10, x11, x12, x13⟩ := TB.out.two
  go_wp2_with fail
  with_reducible refine (cm1 _).mono ?_
  rintro e w4 ⟨rfl, hb⟩
  replace TA := Lib.hid (TA.out.keep hb (Nat.le_refl _))
  replace TB := Lib.hid (TB.out.keep hb (Nat.le_refl _))
  replace TS := Lib.hid (TS.out.keep hb (Nat.le_refl _))
  replace TT := Lib.hid (TT.out.keep hb (Nat.le_refl _))
  replace HB := Lib.hid (bstep HB.out hb (Nat.le_refl _))
  clear hb
  clear x00 x01 x02 x03 x10 x11 x12 x13
  go_upto_region 6 with fail
  obtain ⟨tn, hb⟩ := push1 w4 #[.int .i64 p, .int .i64 q] 23
  have TP := Lib.hid tn
  replace TA := Lib.hid (TA.out.keep hb (Nat.le_refl _))
  replace TB := Lib.hid (TB.out.keep hb (Nat.le_refl _))
  replace TS := Lib.hid (TS.out.keep hb (Nat.le_refl _))
  replace TT := Lib.hid (TT.out.keep hb (Nat.le_refl _))
  replace HB := Lib.hid (bstep HB.out hb (Nat.le_refl _))
  clear hb tn
  generalize w4.alloc (.cells #[.int .i64 p, .int .i64 q] 23) = v4 at *
  obtain ⟨x00, x01, x02, x03⟩ := TA.out.two
  obtain ⟨x10, x11, x12, x13⟩ := TB.out.two
  go_wp2_with fail
  with_reducible refine (cm2 _).mono ?_
  rintro e w5 ⟨rfl, hb⟩
  replace TA := Lib.hid (TA.out.keep hb (Nat.le_refl _))
  replace TB := Lib.hid (TB.out.keep hb (Nat.le_refl _))
  replace TS := Lib.hid (TS.out.keep hb (Nat.le_refl _))
  replace TT := Lib.hid (TT.out.keep hb (Nat.le_refl _))
  replace TP := Lib.hid (TP.out.keep hb (Nat.le_refl _))
  replace HB := Lib.hid (bstep HB.out hb (Nat.le_refl _))
  clear hb
  clear x00 x01 x02 x03 x10 x11 x12 x13
  go_upto_region 7 with fail
  obtain ⟨tn, hb⟩ := push1 w5 #[.int .i64 p, .int .i64 q] 23
  have TQ := Lib.hid tn
  replace TA := Lib.hid (TA.out.keep hb (Nat.le_refl _))
  replace TB := Lib.hid (TB.out.keep hb (Nat.le_refl _))
  replace TS := Lib.hid (TS.out.keep hb (Nat.le_refl _))
  replace TT := Lib.hid (TT.out.keep hb (Nat.le_refl _))
  replace TP := Lib.hid (TP.out.keep hb (Nat.le_refl _))
  replace HB := Lib.hid (bstep HB.out hb (Nat.le_refl _))
  clear hb tn
  generalize w5.alloc (.cells #[.int .i64 p, .int .i64 q] 23) = v5 at *
  obtain ⟨x00, x01, x02, x03⟩ := TA.out.two
  obtain ⟨x10, x11, x12, x13⟩ := TB.out.two
  obtain ⟨x20, x21, x22, x23⟩ := TS.out.two
  obtain ⟨x30, x31, x32, x33⟩ := TT.out.two
  obtain ⟨x40, x41, x42, x43⟩ := TP.out.two
  obtain ⟨x50, x51, x52, x53⟩ := TQ.out.two
  go_wp2_with fail
  with_reducible refine (cn9 _).mono ?_
  rintro e w9 ⟨rfl, rfl⟩
  go_wp2_with fail
  with_reducible refine (cn9 _).mono ?_
  rintro e w9 ⟨rfl, rfl⟩
  go_wp2_with fail
  with_reducible refine (cn0 _).mono ?_
  rintro e w9 ⟨rfl, rfl⟩
  go_wp2_with fail
  with_reducible refine (cn0 _).mono ?_
  rintro e w9 ⟨rfl, rfl⟩
  go_wp2_with fail
  with_reducible refine (cra _).mono ?_
  rintro e w6 ⟨rfl, hb⟩
  replace TA := Lib.hid (TA.out.keep hb (Nat.le_refl _))
  replace TB := Lib.hid (TB.out.keep hb (Nat.le_refl _))
  replace TS := Lib.hid (TS.out.keep hb (Nat.le_refl _))
  replace TT := Lib.hid (TT.out.keep hb (Nat.le_refl _))
  replace TP := Lib.hid (TP.out.keep hb (Nat.le_refl _))
  replace TQ := Lib.hid (TQ.out.keep hb (Nat.le_refl _))
  replace HB := Lib.hid (bstep HB.out hb (Nat.le_refl _))
  clear hb
  clear x00 x01 x02 x03 x10 x11 x12 x13 x20 x21 x22 x23 x30 x31 x32 x33 x40 x41 x42 x43 x50 x51 x52 x53
  obtain ⟨x00, x01, x02, x03⟩ := TA.out.two
  obtain ⟨x10, x11, x12, x13⟩ := TB.out.two
  obtain ⟨x20, x21, x22, x23⟩ := TS.out.two
  obtain ⟨x30, x31, x32, x33⟩ := TT.out.two
  obtain ⟨x40, x41, x42, x43⟩ := TP.out.two
  obtain ⟨x50, x51, x52, x53⟩ := TQ.out.two
  go_wp2_with fail
  with_reducible refine (crb _).mono ?_
  rintro e w7 ⟨rfl, hb⟩
  replace TA := Lib.hid (TA.out.keep hb (Nat.le_refl _))
  replace TB := Lib.hid (TB.out.keep hb (Nat.le_refl _))
  replace TS := Lib.hid (TS.out.keep hb (Nat.le_refl _))
  replace TT := Lib.hid (TT.out.keep hb (Nat.le_refl _))
  replace TP := Lib.hid (TP.out.keep hb (Nat.le_refl _))
  replace TQ := Lib.hid (TQ.out.keep hb (Nat.le_refl _))
  replace HB := Lib.hid (bstep HB.out hb (Nat.le_refl _))
  clear hb
  clear x00 x01 x02 x03 x10 x11 x12 x13 x20 x21 x22 x23 x30 x31 x32 x33 x40 x41 x42 x43 x50 x51 x52 x53
  go_wp2_with fail
  with_reducible refine (cn9 _).mono ?_
  rintro e w9 ⟨rfl, rfl⟩
  go_wp2_with fail
  go_ret
  exact ⟨rfl, HB.out⟩

set_option maxRecDepth 100000 in
set_option maxHeartbeats 4000000 in
theorem back_kk (na da nb db : Int) (h1 : In64 na) (h2 : In64 da) (h3 : In64 nb) (h4 : In64 db) (n d : Int) (hn : In64 n) (hd : In64 d) (xs : sumV n d nb db true = .tuple #[.agg #[.int .i64 na, .int .i64 da], .nilIface]) (p q : Int) (hp : In64 p) (hq : In64 q) (xd : divV p q nb db = .tuple #[.agg #[.int .i64 na, .int .i64 da], .nilIface]) (hnb : nb ≠ 0) (ra : rightB na da = true) (rb : rightB nb db = true)
    (xa1 : sumV na da nb db false = .tuple #[.agg #[.int .i64 n, .int .i64 d], .nilIface]) (xa2 : sumV nb db na da false = .tuple #[.agg #[.int .i64 n, .int .i64 d], .nilIface])
    (xm1 : mulV na da nb db = .tuple #[.agg #[.int .i64 p, .int .i64 q], .nilIface]) (xm2 : mulV nb db na da = .tuple #[.agg #[.int .i64 p, .int .i64 q], .nilIface]) (w : World) :
    Calls Tryz.prog 41 #[.agg #[.int .i64 na, .int .i64 da], .agg #[.int .i64 nb, .int .i64 db]] w fun e w' => e = .returned (.bool true) ∧ Below w.heap.size w w' := by
  have cw := works_any
  have ca1 := add_any na da nb db h1 h2 h3 h4
  have ca2 := add_any nb db na da h3 h4 h1 h2
  have cm1 := mul_any na da nb db h1 h2 h3 h4
  have cm2 := mul_any nb db na da h3 h4 h1 h2
  rw [xa1] at ca1
  rw [xa2] at ca2
  rw [xm1] at cm1
  rw [xm2] at cm2
  have cra := right_any na da h1 h2
  have crb := right_any nb db h3 h4
  have cn0 := num_nil
  have cn1 := num_errno 1 (by decide) (by decide)
  have cn9 := num_errno 9 (by decide) (by decide)
  rw [ra] at cra
  rw [rb] at crb
  have cs := sub_any n d nb db hn hd h3 h4
  rw [xs] at cs
  have cd := div_any p q nb db hp hq h3 h4
  rw [xd] at cd
  have hz : (nb != 0) = true := by rw [bne_iff_ne]; exact hnb
  clear hnb xd
  clear xa1 xa2 xm1 xm2 xs ra rb
  obtain ⟨ta, tb, hsz, hbw⟩ := box2 w #[.int .i64 na, .int .i64 da] #[.int .i64 nb, .int .i64 db] 23 23
  have TA := Lib.hid ta
  have TB := Lib.hid tb
  have HB := Lib.hid hbw
  clear ta tb hsz hbw
  go_enter Tryz.func41, Tryz.ntmps41
  go_wp2_with fail
  with_reducible refine (cw _).mono ?_
  rintro e w1 ⟨rfl, hb⟩
  replace TA := Lib.hid (TA.out.keep hb (Nat.le_refl _))
  replace TB := Lib.hid (TB.out.keep hb (Nat.le_refl _))
  replace HB := Lib.hid (bstep HB.out hb (Nat.le_refl _))
  clear hb
  obtain ⟨x00, x01, x02, x03⟩ := TA.out.two
  obtain ⟨x10, x11, x12, x13⟩ := TB.out.two
  go_wp2_with fail
  with_reducible refine (ca1 _).mono ?_
  rintro e w2 ⟨rfl, hb⟩
  replace TA := Lib.hid (TA.out.keep hb (Nat.le_refl _))
  replace TB := Lib.hid (TB.out.keep hb (Nat.le_refl _))
  replace HB := Lib.hid (bstep HB.out hb (Nat.le_refl _))
  clear hb
  clear x00 x01 x02 x03 x10 x11 x12 x13
  go_upto_region 4 with fail
  obtain ⟨tn, hb⟩ := push1 w2 #[.int .i64 n, .int .i64 d] 23
  have TS := Lib.hid tn
  replace TA := Lib.hid (TA.out.keep hb (Nat.le_refl _))
  replace TB := Lib.hid (TB.out.keep hb (Nat.le_refl _))
  replace HB := Lib.hid (bstep HB.out hb (Nat.le_refl _))
  clear hb tn
  generalize w2.alloc (.cells #[.int .i64 n, .int .i64 d] 23) = v2 at *
  obtain ⟨x00, x01, x02, x03⟩ := TA.out.two
  obtain ⟨x10, x11, x12, x13⟩ := TB.out.two
  go_wp2_with fail
  with_reducible refine (ca2 _).mono ?_
  rintro e w3 ⟨rfl, hb⟩
  replace TA := Lib.hid (TA.out.keep hb (Nat.le_refl _))
  replace TB := Lib.hid (TB.out.keep hb (Nat.le_refl _))
  replace TS := Lib.hid (TS.out.keep hb (Nat.le_refl _))
  replace HB := Lib.hid (bstep HB.out hb (Nat.le_refl _))
  clear hb
  clear x00 x01 x02 x03 x10 x11 x12 x13
  go_upto_region 5 with fail
  obtain ⟨tn, hb⟩ := push1 w3 #[.int .i64 n, .int .i64 d] 23
  have TT := Lib.hid tn
  replace TA := Lib.hid (TA.out.keep hb (Nat.le_refl _))
  replace TB := Lib.hid (TB.out.keep hb (Nat.le_refl _))
  replace TS := Lib.hid (TS.out.keep hb (Nat.le_refl _))
  replace HB := Lib.hid (bstep HB.out hb (Nat.le_refl _))
  clear hb tn
  generalize w3.alloc (.cells #[.int .i64 n, .int .i64 d] 23) = v3 at *
  obtain ⟨x00, x01, x02, x03⟩ := TA.out.two
  obtain ⟨x10, x11, x12, x13⟩ := TB.out.two
  go_wp2_with fail
  with_reducible refine (cm1 _).mono ?_
  rintro e w4 ⟨rfl, hb⟩
  replace TA := Lib.hid (TA.out.keep hb (Nat.le_refl _))
  replace TB := Lib.hid (TB.out.keep hb (Nat.le_refl _))
  replace TS := Lib.hid (TS.out.keep hb (Nat.le_refl _))
  replace TT := Lib.hid (TT.out.keep hb (Nat.le_refl _))
  replace HB := Lib.hid (bstep HB.out hb (Nat.le_refl _))
  clear hb
  clear x00 x01 x02 x03 x10 x11 x12 x13
  go_upto_region 6 with fail
  obtain ⟨tn, hb⟩ := push1 w4 #[.int .i64 p, .int .i64 q] 23
  have TP := Lib.hid tn
  replace TA := Lib.hid (TA.out.keep hb (Nat.le_refl _))
  replace TB := Lib.hid (TB.out.keep hb (Nat.le_refl _))
  replace TS := Lib.hid (TS.out.keep hb (Nat.le_refl _))
  replace TT := Lib.hid (TT.out.keep hb (Nat.le_refl _))
  replace HB := Lib.hid (bstep HB.out hb (Nat.le_refl _))
  clear hb tn
  generalize w4.alloc (.cells #[.int .i64 p, .int .i64 q] 23) = v4 at *
  obtain ⟨x00, x01, x02, x03⟩ := TA.out.two
  obtain ⟨x10, x11, x12, x13⟩ := TB.out.two
  go_wp2_with fail
  with_reducible refine (cm2 _).mono ?_
  rintro e w5 ⟨rfl, hb⟩
  replace TA := Lib.hid (TA.out.keep hb (Nat.le_refl _))
  replace TB := Lib.hid (TB.out.keep hb (Nat.le_refl _))
  replace TS := Lib.hid (TS.out.keep hb (Nat.le_refl _))
  replace TT := Lib.hid (TT.out.keep hb (Nat.le_refl _))
  replace TP := Lib.hid (TP.out.keep hb (Nat.le_refl _))
  replace HB := Lib.hid (bstep HB.out hb (Nat.le_refl _))
  clear hb
  clear x00 x01 x02 x03 x10 x11 x12 x13
  go_upto_region 7 with fail
  obtain ⟨tn, hb⟩ := push1 w5 #[.int .i64 p, .int .i64 q] 23
  have TQ := Lib.hid tn
  replace TA := Lib.hid (TA.out.keep hb (Nat.le_refl _))
  replace TB := Lib.hid (TB.out.keep hb (Nat.le_refl _))
  replace TS := Lib.hid (TS.out.keep hb (Nat.le_refl _))
  replace TT := Lib.hid (TT.out.keep hb (Nat.le_refl _))
  replace TP := Lib.hid (TP.out.keep hb (Nat.le_refl _))
  replace HB := Lib.hid (bstep HB.out hb (Nat.le_refl _))
  clear hb tn
  generalize w5.alloc (.cells #[.int .i64 p, .int .i64 q] 23) = v5 at *
  obtain ⟨x00, x01, x02, x03⟩ := TA.out.two
  obtain ⟨x10, x11, x12, x13⟩ := TB.out.two
  obtain ⟨x20, x21, x22, x23⟩ := TS.out.two
  obtain ⟨x30, x31, x32, x33⟩ := TT.out.two
  obtain ⟨x40, x41, x42, x43⟩ := TP.out.two
  obtain ⟨x50, x51, x52, x53⟩ := TQ.out.two
  go_wp2_with fail
  with_reducible refine (cn0 _).mono ?_
  rintro e w9 ⟨rfl, rfl⟩
  go_wp2_with fail
  with_reducible refine (cn0 _).mono ?_
  rintro e w9 ⟨rfl, rfl⟩
  go_wp2_with fail
  with_reducible refine (cn0 _).mono ?_
  rintro e w9 ⟨rfl, rfl⟩
  go_wp2_with fail
  with_reducible refine (cn0 _).mono ?_
  rintro e w9 ⟨rfl, rfl⟩
  go_wp2_with fail
  with_reducible refine (cs _).mono ?_
  rintro e w6 ⟨rfl, hb⟩
  replace TA := Lib.hid (TA.out.keep hb (Nat.le_refl _))
  replace TB := Lib.hid (TB.out.keep hb (Nat.le_refl _))
  replace TS := Lib.hid (TS.out.keep hb (Nat.le_refl _))
  replace TT := Lib.hid (TT.out.keep hb (Nat.le_refl _))
  replace TP := Lib.hid (TP.out.keep hb (Nat.le_refl _))
  replace TQ := Lib.hid (TQ.out.keep hb (Nat.le_refl _))
  replace HB := Lib.hid (bstep HB.out hb (Nat.le_refl _))
  clear hb
  clear x00 x01 x02 x03 x10 x11 x12 x13 x20 x21 x22 x23 x30 x31 x32 x33 x40 x41 x42 x43 x50 x51 x52 x53
  go_upto_region 11 with fail
  obtain ⟨tn, hb⟩ := push1 w6 #[.int .i64 na, .int .i64 da] 23
  have TC := Lib.hid tn
  replace TA := Lib.hid (TA.out.keep hb (Nat.le_refl _))
  replace TB := Lib.hid (TB.out.keep hb (Nat.le_refl _))
  replace TS := Lib.hid (TS.out.keep hb (Nat.le_refl _))
  replace TT := Lib.hid (TT.out.keep hb (Nat.le_refl _))
  replace TP := Lib.hid (TP.out.keep hb (Nat.le_refl _))
  replace TQ := Lib.hid (TQ.out.keep hb (Nat.le_refl _))
  replace HB := Lib.hid (bstep HB.out hb (Nat.le_refl _))
  clear hb tn
  generalize w6.alloc (.cells #[.int .i64 na, .int .i64 da] 23) = v6 at *
  obtain ⟨x00, x01, x02, x03⟩ := TA.out.two
  obtain ⟨x10, x11, x12, x13⟩ := TB.out.two
  obtain ⟨x20, x21, x22, x23⟩ := TS.out.two
  obtain ⟨x30, x31, x32, x33⟩ := TT.out.two
  obtain ⟨x40, x41, x42, x43⟩ := TP.out.two
  obtain ⟨x50, x51, x52, x53⟩ := TQ.out.two
  obtain ⟨x60, x61, x62, x63⟩ := TC.out.two
  go_wp2_with fail
  with_reducible refine (cd _).mono ?_
  rintro e w7 ⟨rfl, hb⟩
  replace TA := Lib.hid (TA.out.keep hb (Nat.le_refl _))
  replace TB := Lib.hid (TB.out.keep hb (Nat.le_refl _))
  replace TS := Lib.hid (TS.out.keep hb (Nat.le_refl _))
  replace TT := Lib.hid (TT.out.keep hb (Nat.le_refl _))
  replace TP := Lib.hid (TP.out.keep hb (Nat.le_refl _))
  replace TQ := Lib.hid (TQ.out.keep hb (Nat.le_refl _))
  replace TC := Lib.hid (TC.out.keep hb (Nat.le_refl _))
  replace HB := Lib.hid (bstep HB.out hb (Nat.le_refl _))
  clear hb
  clear x00 x01 x02 x03 x10 x11 x12 x13 x20 x21 x22 x23 x30 x31 x32 x33 x40 x41 x42 x43 x50 x51 x52 x53 x60 x61 x62 x63
  go_upto_region 15 with fail
  obtain ⟨tn, hb⟩ := push1 w7 #[.int .i64 na, .int .i64 da] 23
  have TD := Lib.hid tn
  replace TA := Lib.hid (TA.out.keep hb (Nat.le_refl _))
  replace TB := Lib.hid (TB.out.keep hb (Nat.le_refl _))
  replace TS := Lib.hid (TS.out.keep hb (Nat.le_refl _))
  replace TT := Lib.hid (TT.out.keep hb (Nat.le_refl _))
  replace TP := Lib.hid (TP.out.keep hb (Nat.le_refl _))
  replace TQ := Lib.hid (TQ.out.keep hb (Nat.le_refl _))
  replace TC := Lib.hid (TC.out.keep hb (Nat.le_refl _))
  replace HB := Lib.hid (bstep HB.out hb (Nat.le_refl _))
  clear hb tn
  generalize w7.alloc (.cells #[.int .i64 na, .int .i64 da] 23) = v7 at *
  obtain ⟨x00, x01, x02, x03⟩ := TA.out.two
  obtain ⟨x10, x11, x12, x13⟩ := TB.out.two
  obtain ⟨x20, x21, x22, x23⟩ := TS.out.two
  obtain ⟨x30, x31, x32, x33⟩ := TT.out.two
  obtain ⟨x40, x41, x42, x43⟩ := TP.out.two
  obtain ⟨x50, x51, x52, x53⟩ := TQ.out.two
  obtain ⟨x60, x61, x62, x63⟩ := TC.out.two
  obtain ⟨x70, x71, x72, x73⟩ := TD.out.two
  go_wp2_with fail
  with_reducible refine (cra _).mono ?_
  rintro e w8 ⟨rfl, hb⟩
  replace TA := Lib.hid (TA.out.keep hb (Nat.le_refl _))
  replace TB := Lib.hid (TB.out.keep hb (Nat.le_refl _))
  replace TS := Lib.hid (TS.out.keep hb (Nat.le_refl _))
  replace TT := Lib.hid (TT.out.keep hb (Nat.le_refl _))
  replace TP := Lib.hid (TP.out.keep hb (Nat.le_refl _))
  replace TQ := Lib.hid (TQ.out.keep hb (Nat.le_refl _))
  replace TC := Lib.hid (TC.out.keep hb (Nat.le_refl _))
  replace TD := Lib.hid (TD.out.keep hb (Nat.le_refl _))
  replace HB := Lib.hid (bstep HB.out hb (Nat.le_refl _))
  clear hb
  clear x00 x01 x02 x03 x10 x11 x12 x13 x20 x21 x22 x23 x30 x31 x32 x33 x40 x41 x42 x43 x50 x51 x52 x53 x60 x61 x62 x63 x70 x71 x72 x73
  obtain ⟨x00, x01, x02, x03⟩ := TA.out.two
  obtain ⟨x10, x11, x12, x13⟩ := TB.out.two
  obtain ⟨x20, x21, x22, x23⟩ := TS.out.two
  obtain ⟨x30, x31, x32, x33⟩ := TT.out.two
  obtain ⟨x40, x41, x42, x43⟩ := TP.out.two
  obtain ⟨x50, x51, x52, x53⟩ := TQ.out.two
  obtain ⟨x60, x61, x62, x63⟩ := TC.out.two
  obtain ⟨x70, x71, x72, x73⟩ := TD.out.two
  go_wp2_with fail
  with_reducible refine (crb _).mono ?_
  rintro e w9 ⟨rfl, hb⟩
  replace TA := Lib.hid (TA.out.keep hb (Nat.le_refl _))
  replace TB := Lib.hid (TB.out.keep hb (Nat.le_refl _))
  replace TS := Lib.hid (TS.out.keep hb (Nat.le_refl _))
  replace TT := Lib.hid (TT.out.keep hb (Nat.le_refl _))
  replace TP := Lib.hid (TP.out.keep hb (Nat.le_refl _))
  replace TQ := Lib.hid (TQ.out.keep hb (Nat.le_refl _))
  replace TC := Lib.hid (TC.out.keep hb (Nat.le_refl _))
  replace TD := Lib.hid (TD.out.keep hb (Nat.le_refl _))
  replace HB := Lib.hid (bstep HB.out hb (Nat.le_refl _))
  clear hb
  clear x00 x01 x02 x03 x10 x11 x12 x13 x20 x21 x22 x23 x30 x31 x32 x33 x40 x41 x42 x43 x50 x51 x52 x53 x60 x61 x62 x63 x70 x71 x72 x73
  go_wp2_with fail
  with_reducible refine (cn0 _).mono ?_
  rintro e w9 ⟨rfl, rfl⟩
  go_wp2_with fail
  go_ret
  exact ⟨rfl, HB.out⟩

set_option maxRecDepth 100000 in
set_option maxHeartbeats 4000000 in
theorem back_kz (na da nb db : Int) (h1 : In64 na) (h2 : In64 da) (h3 : In64 nb) (h4 : In64 db) (n d : Int) (hn : In64 n) (hd : In64 d) (xs : sumV n d nb db true = .tuple #[.agg #[.int .i64 na, .int .i64 da], .nilIface]) (p q : Int) (hp : In64 p) (hq : In64 q) (hnb : nb = 0) (ra : rightB na da = true) (rb : rightB nb db = true)
    (xa1 : sumV na da nb db false = .tuple #[.agg #[.int .i64 n, .int .i64 d], .nilIface]) (xa2 : sumV nb db na da false = .tuple #[.agg #[.int .i64 n, .int .i64 d], .nilIface])
    (xm1 : mulV na da nb db = .tuple #[.agg #[.int .i64 p, .int .i64 q], .nilIface]) (xm2 : mulV nb db na da = .tuple #[.agg #[.int .i64 p, .int .i64 q], .nilIface]) (w : World) :
    Calls Tryz.prog 41 #[.agg #[.int .i64 na, .int .i64 da], .agg #[.int .i64 nb, .int .i64 db]] w fun e w' => e = .returned (.bool true) ∧ Below w.heap.size w w' := by
  have cw := works_any
  have ca1 := add_any na da nb db h1 h2 h3 h4
  have ca2 := add_any nb db na da h3 h4 h1 h2
  have cm1 := mul_any na da nb db h1 h2 h3 h4
  have cm2 := mul_any nb db na da h3 h4 h1 h2
  rw [xa1] at ca1
  rw [xa2] at ca2
  rw [xm1] at cm1
  rw [xm2] at cm2
  have cra := right_any na da h1 h2
  have crb := right_any nb db h3 h4
  have cn0 := num_nil
  have cn1 := num_errno 1 (by decide) (by decide)
  have cn9 := num_errno 9 (by decide) (by decide)
  rw [ra] at cra
  rw [rb] at crb
  have cs := sub_any n d nb db hn hd h3 h4
  rw [xs] at cs
  have hz : (nb != 0) = false := by rw [hnb]; rfl
  clear hnb
  clear xa1 xa2 xm1 xm2 xs ra rb
  obtain ⟨ta, tb, hsz, hbw⟩ := box2 w #[.int .i64 na, .int .i64 da] #[.int .i64 nb, .int .i64 db] 23 23
  have TA := Lib.hid ta
  have TB := Lib.hid tb
  have HB := Lib.hid hbw
  clear ta tb hsz hbw
  go_enter Tryz.func41, Tryz.ntmps41
  go_wp2_with fail
  with_reducible refine (cw _).mono ?_
  rintro e w1 ⟨rfl, hb⟩
  replace TA := Lib.hid (TA.out.keep hb (Nat.le_refl _))
  replace TB := Lib.hid (TB.out.keep hb (Nat.le_refl _))
  replace HB := Lib.hid (bstep HB.out hb (Nat.le_refl _))
  clear hb
  obtain ⟨x00, x01, x02, x03⟩ := TA.out.two
  obtain ⟨x10, x11, x12, x13⟩ := TB.out.two
  go_wp2_with fail
  with_reducible refine (ca1 _).mono ?_
  rintro e w2 ⟨rfl, hb⟩
  replace TA := Lib.hid (TA.out.keep hb (Nat.le_refl _))
  replace TB := Lib.hid (TB.out.keep hb (Nat.le_refl _))
  replace HB := Lib.hid (bstep HB.out hb (Nat.le_refl _))
  clear hb
  clear x00 x01 x02 x03 x10 x11 x12 x13
  go_upto_region 4 with fail
  obtain ⟨tn, hb⟩ := push1 w2 #[.int .i64 n, .int .i64 d] 23
  have TS := Lib.hid tn
  replace TA := Lib.hid (TA.out.keep hb (Nat.le_refl _))
  replace TB := Lib.hid (TB.out.keep hb (Nat.le_refl _))
  replace HB := Lib.hid (bstep HB.out hb (Nat.le_refl _))
  clear hb tn
  generalize w2.alloc (.cells #[.int .i64 n, .int .i64 d] 23) = v2 at *
  obtain ⟨x00, x01, x02, x03⟩ := TA.out.two
  obtain ⟨x10, x11, x12, x13⟩ := TB.out.two
  go_wp2_with fail
  with_reducible refine (ca2 _).mono ?_
  rintro e w3 ⟨rfl, hb⟩
  replace TA := Lib.hid (TA.out.keep hb (Nat.le_refl _))
  replace TB := Lib.hid (TB.out.keep hb (Nat.le_refl _))
  replace TS := Lib.hid (TS.out.keep hb (Nat.le_refl _))
  replace HB := Lib.hid (bstep HB.out hb (Nat.le_refl _))
  clear hb
  clear x00 x01 x02 x03 x10 x11 x12 x13
  go_upto_region 5 with fail
  obtain ⟨tn, hb⟩ := push1 w3 #[.int .i64 n, .int .i64 d] 23
  have TT := Lib.hid tn
  replace TA := Lib.hid (TA.out.keep hb (Nat.le_refl _))
  replace TB := Lib.hid (TB.out.keep hb (Nat.le_refl _))
  replace TS := Lib.hid (TS.out.keep hb (Nat.le_refl _))
  replace HB := Lib.hid (bstep HB.out hb (Nat.le_refl _))
  clear hb tn
  generalize w3.alloc (.cells #[.int .i64 n, .int .i64 d] 23) = v3 at *
  obtain ⟨x00, x01, x02, x03⟩ := TA.out.two
  obtain ⟨x10, x11, x12, x13⟩ := TB.out.two
  go_wp2_with fail
  with_reducible refine (cm1 _).mono ?_
  rintro e w4 ⟨rfl, hb⟩
  replace TA := Lib.hid (TA.out.keep hb (Nat.le_refl _))
  replace TB := Lib.hid (TB.out.keep hb (Nat.le_refl _))
  replace TS := Lib.hid (TS.out.keep hb (Nat.le_refl _))
  replace TT := Lib.hid (TT.out.keep hb (Nat.le_refl _))
  replace HB := Lib.hid (bstep HB.out hb (Nat.le_refl _))
  clear hb
  clear x00 x01 x02 x03 x10 x11 x12 x13
  go_upto_region 6 with fail
  obtain ⟨tn, hb⟩ := push1 w4 #[.int .i64 p, .int .i64 q] 23
  have TP := Lib.hid tn
  replace TA := Lib.hid (TA.out.keep hb (Nat.le_refl _))
  replace TB := Lib.hid (TB.out.keep hb (Nat.le_refl _))
  replace TS := Lib.hid (TS.out.keep hb (Nat.le_refl _))
  replace TT := Lib.hid (TT.out.keep hb (Nat.le_refl _))
  replace HB := Lib.hid (bstep HB.out hb (Nat.le_refl _))
  clear hb tn
  generalize w4.alloc (.cells #[.int .i64 p, .int .i64 q] 23) = v4 at *
  obtain ⟨x00, x01, x02, x03⟩ := TA.out.two
  obtain ⟨x10, x11, x12, x13⟩ := TB.out.two
  go_wp2_with fail
  with_reducible refine (cm2 _).mono ?_
  rintro e w5 ⟨rfl, hb⟩
  replace TA := Lib.hid (TA.out.keep hb (Nat.le_refl _))
  replace TB := Lib.hid (TB.out.keep hb (Nat.le_refl _))
  replace TS := Lib.hid (TS.out.keep hb (Nat.le_refl _))
  replace TT := Lib.hid (TT.out.keep hb (Nat.le_refl _))
  replace TP := Lib.hid (TP.out.keep hb (Nat.le_refl _))
  replace HB := Lib.hid (bstep HB.out hb (Nat.le_refl _))
  clear hb
  clear x00 x01 x02 x03 x10 x11 x12 x13
  go_upto_region 7 with fail
  obtain ⟨tn, hb⟩ := push1 w5 #[.int .i64 p, .int .i64 q] 23
  have TQ := Lib.hid tn
  replace TA := Lib.hid (TA.out.keep hb (Nat.le_refl _))
  replace TB := Lib.hid (TB.out.keep hb (Nat.le_refl _))
  replace TS := Lib.hid (TS.out.keep hb (Nat.le_refl _))
  replace TT := Lib.hid (TT.out.keep hb (Nat.le_refl _))
  replace TP := Lib.hid (TP.out.keep hb (Nat.le_refl _))
  replace HB := Lib.hid (bstep HB.out hb (Nat.le_refl _))
  clear hb tn
  generalize w5.alloc (.cells #[.int .i64 p, .int .i64 q] 23) = v5 at *
  obtain ⟨x00, x01, x02, x03⟩ := TA.out.two
  obtain ⟨x10, x11, x12, x13⟩ := TB.out.two
  obtain ⟨x20, x21, x22, x23⟩ := TS.out.two
  obtain ⟨x30, x31, x32, x33⟩ := TT.out.two
  obtain ⟨x40, x41, x42, x43⟩ := TP.out.two
  obtain ⟨x50, x51, x52, x53⟩ := TQ.out.two
  go_wp2_with fail
  with_reducible refine (cn0 _).mono ?_
  rintro e w9 ⟨rfl, rfl⟩
  go_wp2_with fail
  with_reducible refine (cn0 _).mono ?_
  rintro e w9 ⟨rfl, rfl⟩
  go_wp2_with fail
  with_reducible refine (cn0 _).mono ?_
  rintro e w9 ⟨rfl, rfl⟩
  go_wp2_with fail
  with_reducible refine (cn0 _).mono ?_
  rintro e w9 ⟨rfl, rfl⟩
  go_wp2_with fail
  with_reducible refine (cs _).mono ?_
  rintro e w6 ⟨rfl, hb⟩
  replace TA := Lib.hid (TA.out.keep hb (Nat.le_refl _))
  replace TB := Lib.hid (TB.out.keep hb (Nat.le_refl _))
  replace TS := Lib.hid (TS.out.keep hb (Nat.le_refl _))
  replace TT := Lib.hid (TT.out.keep hb (Nat.le_refl _))
  replace TP := Lib.hid (TP.out.keep hb (Nat.le_refl _))
  replace TQ := Lib.hid (TQ.out.keep hb (Nat.le_refl _))
  replace HB := Lib.hid (bstep HB.out hb (Nat.le_refl _))
  clear hb
  clear x00 x01 x02 x03 x10 x11 x12 x13 x20 x21 x22 x23 x30 x31 x32 x33 x40 x41 x42 x43 x50 x51 x52 x53
  go_upto_region 11 with fail
  obtain ⟨tn, hb⟩ := push1 w6 #[.int .i64 na, .int .i64 da] 23
  have TC := Lib.hid tn
  replace TA := Lib.hid (TA.out.keep hb (Nat.le_refl _))
  replace TB := Lib.hid (TB.out.keep hb (Nat.le_refl _))
  replace TS := Lib.hid (TS.out.keep hb (Nat.le_refl _))
  replace TT := Lib.hid (TT.out.keep hb (Nat.le_refl _))
  replace TP := Lib.hid (TP.out.keep hb (Nat.le_refl _))
  replace TQ := Lib.hid (TQ.out.keep hb (Nat.le_refl _))
  replace HB := Lib.hid (bstep HB.out hb (Nat.le_refl _))
  clear hb tn
  generalize w6.alloc (.cells #[.int .i64 na, .int .i64 da] 23) = v6 at *
  obtain ⟨x00, x01, x02, x03⟩ := TA.out.two
  obtain ⟨x10, x11, x12, x13⟩ := TB.out.two
  obtain ⟨x20, x21, x22, x23⟩ := TS.out.two
  obtain ⟨x30, x31, x32, x33⟩ := TT.out.two
  obtain ⟨x40, x41, x42, x43⟩ := TP.out.two
  obtain ⟨x50, x51, x52, x53⟩ := TQ.out.two
  obtain ⟨x60, x61, x62, x63⟩ := TC.out.two
  go_wp2_with fail
  with_reducible refine (cra _).mono ?_
  rintro e w7 ⟨rfl, hb⟩
  replace TA := Lib.hid (TA.out.keep hb (Nat.le_refl _))
  replace TB := Lib.hid (TB.out.keep hb (Nat.le_refl _))
  replace TS := Lib.hid (TS.out.keep hb (Nat.le_refl _))
  replace TT := Lib.hid (TT.out.keep hb (Nat.le_refl _))
  replace TP := Lib.hid (TP.out.keep hb (Nat.le_refl _))
  replace TQ := Lib.hid (TQ.out.keep hb (Nat.le_refl _))
  replace TC := Lib.hid (TC.out.keep hb (Nat.le_refl _))
  replace HB := Lib.hid (bstep HB.out hb (Nat.le_refl _))
  clear hb
  clear x00 x01 x02 x03 x10 x11 x12 x13 x20 x21 x22 x23 x30 x31 x32 x33 x40 x41 x42 x43 x50 x51 x52 x53 x60 x61 x62 x63
  obtain ⟨x00, x01, x02, x03⟩ := TA.out.two
  obtain ⟨x10, x11, x12, x13⟩ := TB.out.two
  obtain ⟨x20, x21, x22, x23⟩ := TS.out.two
  obtain ⟨x30, x31, x32, x33⟩ := TT.out.two
  obtain ⟨x40, x41, x42, x43⟩ := TP.out.two
  obtain ⟨x50, x51, x52, x53⟩ := TQ.out.two
  obtain ⟨x60, x61, x62, x63⟩ := TC.out.two
  go_wp2_with fail
  with_reducible refine (crb _).mono ?_
  rintro e w8 ⟨rfl, hb⟩
  replace TA := Lib.hid (TA.out.keep hb (Nat.le_refl _))
  replace TB := Lib.hid (TB.out.keep hb (Nat.le_refl _))
  replace TS := Lib.hid (TS.out.keep hb (Nat.le_refl _))
  replace TT := Lib.hid (TT.out.keep hb (Nat.le_refl _))
  replace TP := Lib.hid (TP.out.keep hb (Nat.le_refl _))
  replace TQ := Lib.hid (TQ.out.keep hb (Nat.le_refl _))
  replace TC := Lib.hid (TC.out.keep hb (Nat.le_refl _))
  replace HB := Lib.hid (bstep HB.out hb (Nat.le_refl _))
  clear hb
  clear x00 x01 x02 x03 x10 x11 x12 x13 x20 x21 x22 x23 x30 x31 x32 x33 x40 x41 x42 x43 x50 x51 x52 x53 x60 x61 x62 x63
  go_wp2_with fail
  with_reducible refine (cn0 _).mono ?_
  rintro e w9 ⟨rfl, rfl⟩
  go_wp2_with fail
  go_ret
  exact ⟨rfl, HB.out⟩

theorem ratBack_walk (na da nb db : Int) (h1 : In64 na) (h2 : In64 da) (h3 : In64 nb) (h4 : In64 db) (w : World) :
    Calls Tryz.prog 41 #[.agg #[.int .i64 na, .int .i64 da], .agg #[.int .i64 nb, .int .i64 db]] w fun e w' => e = .returned (.bool true) ∧ Below w.heap.size w w' := by
  cases ra : rightB na da
  · exact back_argA na da nb db h1 h2 h3 h4 ra (by unfold sumV; rw [ra]; rfl) (by unfold sumV; rw [ra, Bool.and_false]; rfl) (by unfold mulV; rw [ra]; rfl) (by unfold mulV; rw [ra, Bool.and_false]; rfl) w
  · cases rb : rightB nb db
    · exact back_argB na da nb db h1 h2 h3 h4 ra rb (by unfold sumV; rw [rb, Bool.and_false]; rfl) (by unfold sumV; rw [rb]; rfl) (by unfold mulV; rw [rb, Bool.and_false]; rfl) (by unfold mulV; rw [rb]; rfl) w
    · have pa := (rightB_iff na da h1 h2).1 ra
      have pb := (rightB_iff nb db h3 h4).1 rb
      rcases add_cases na da nb db pa pb with ⟨n, d, hr, s1, s2, s3⟩ | ⟨s1, s2⟩
      · rcases mul_cases na da nb db pa pb with ⟨p, q, hr2, m1, m2, m3⟩ | ⟨m1, m2⟩
        · by_cases h0 : nb = 0
          · exact back_kz na da nb db h1 h2 h3 h4 n d (rightP_in hr).1 (rightP_in hr).2 s3 p q (rightP_in hr2).1 (rightP_in hr2).2 h0 ra rb s1 s2 m1 m2 w
          · exact back_kk na da nb db h1 h2 h3 h4 n d (rightP_in hr).1 (rightP_in hr).2 s3 p q (rightP_in hr2).1 (rightP_in hr2).2 (m3 h0) h0 ra rb s1 s2 m1 m2 w
        · exact back_ok0 na da nb db h1 h2 h3 h4 n d (rightP_in hr).1 (rightP_in hr).2 s3 ra rb s1 s2 m1 m2 w
      · rcases mul_cases na da nb db pa pb with ⟨p, q, hr2, m1, m2, m3⟩ | ⟨m1, m2⟩
        · by_cases h0 : nb = 0
          · exact back_0z na da nb db h1 h2 h3 h4 p q (rightP_in hr2).1 (rightP_in hr2).2 h0 ra rb s1 s2 m1 m2 w
          · exact back_0k na da nb db h1 h2 h3 h4 p q (rightP_in hr2).1 (rightP_in hr2).2 (m3 h0) h0 ra rb s1 s2 m1 m2 w
        · exact back_oo na da nb db h1 h2 h3 h4 ra rb s1 s2 m1 m2 w
end Go.Proofs.YtajebceanonalaaGreatDoor
