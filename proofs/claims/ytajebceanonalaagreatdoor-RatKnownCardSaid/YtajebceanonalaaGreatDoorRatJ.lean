/-
  Contract of rat's Mul.
-/
import Derived.Test.YtajebceanonalaaGreatDoorRatI
namespace Go.Proofs.YtajebceanonalaaGreatDoor
set_option linter.unusedVariables false
open Go.RowKit

theorem sgn_mul2 (a b : Int) : sgn (decide (a < 0) != decide (b < 0)) (a.natAbs * b.natAbs) = a * b := by
  rw [sgn_mul]
  by_cases h1 : a < 0 <;> by_cases h2 : b < 0 <;> simp only [h1, h2, decide_true, decide_false, bne_self_eq_false, Bool.true_bne, Bool.false_bne, Bool.not_false, sgn, if_true, Bool.false_eq_true, if_false]
  · rw [← Int.neg_mul_neg a b]; congr 1 <;> omega
  · rw [show (-(a.natAbs : Int)) = a by omega, show (b.natAbs : Int) = b by omega]
  · rw [show (-(a.natAbs : Int)) = -a by omega, show (b.natAbs : Int) = -b by omega, Int.neg_mul_neg]
  · congr 1 <;> omega

set_option maxRecDepth 100000 in
set_option maxHeartbeats 2000000 in
theorem mul_bad (na da nb db : Int) (h1 : In64 na) (h2 : In64 da) (h3 : In64 nb) (h4 : In64 db) (hb : rightB na da = false ∨ rightB nb db = false) (w : World) :
    Calls Tryz.prog 83 #[.agg #[.int .i64 na, .int .i64 da], .agg #[.int .i64 nb, .int .i64 db]] w fun e w' => e = .returned argV ∧ Below w.heap.size w w' := by
  have ca := right_any na da h1 h2
  have cb := right_any nb db h3 h4
  have hbx := box3 w #[.int .i64 na, .int .i64 da] #[.int .i64 nb, .int .i64 db] #[.int .i64 0, .int .i64 0] 23 23 23
  obtain ⟨ta, tb, tr, hsz, hbw⟩ := hbx
  have TA := Lib.hid ta
  have TB := Lib.hid tb
  have TR := Lib.hid tr
  have HSZ := Lib.hid hsz
  have HBW := Lib.hid hbw
  clear ta tb tr hsz hbw
  cases ha : rightB na da
  · rw [ha] at ca
    go_enter Tryz.func83, Tryz.ntmps83
    go_wp2_with fail
    refine (ca _).mono ?_
    rintro e w1 ⟨rfl, hb1⟩
    clear ca cb
    obtain ⟨r0, r1, r2, r3⟩ := (TR.out.keep hb1 (Nat.le_refl _)).two
    have HFIN := Lib.hid (HBW.out.trans (hb1.mono (by rw [HSZ.out]; omega)))
    clear hb1
    go_wp2_with fail
    exact bodyPost_ret (v := argV) (by simp [results, Tryz.results83, go_sem, argV, errV, r0, r1]) rfl ⟨rfl, (HFIN.out.setCell (by simp; omega) _).setCell (by simp; omega) _⟩
  · have hb' : rightB nb db = false := by
      rcases hb with h | h
      · rw [ha] at h; cases h
      · exact h
    rw [ha] at ca
    rw [hb'] at cb
    go_enter Tryz.func83, Tryz.ntmps83
    go_wp2_with fail
    refine (ca _).mono ?_
    rintro e w1 ⟨rfl, hb1⟩
    clear ca
    have TB1 := Lib.hid (TB.out.keep hb1 (Nat.le_refl _))
    have TR1 := Lib.hid (TR.out.keep hb1 (Nat.le_refl _))
    have HFIN := Lib.hid (HBW.out.trans (hb1.mono (by rw [HSZ.out]; omega)))
    obtain ⟨b0, b1, b2, b3⟩ := TB1.out.two
    clear hb1
    go_wp2_with fail
    refine (cb _).mono ?_
    rintro e w2 ⟨rfl, hb2⟩
    obtain ⟨r0, r1, r2, r3⟩ := (TR1.out.keep hb2 (Nat.le_refl _)).two
    have HFIN2 := Lib.hid (bstep HFIN.out hb2 (Nat.le_refl _))
    clear hb2 b0 b1 b2 b3
    go_wp2_with fail
    exact bodyPost_ret (v := argV) (by simp [results, Tryz.results83, go_sem, argV, errV, r0, r1]) rfl ⟨rfl, (HFIN2.out.setCell (by simp; omega) _).setCell (by simp; omega) _⟩

set_option maxRecDepth 100000 in
set_option maxHeartbeats 2000000 in
theorem mul_ok (na da nb db : Int) (ha : RightP na da) (hb : RightP nb db) (w : World) :
    Calls Tryz.prog 83 #[.agg #[.int .i64 na, .int .i64 da], .agg #[.int .i64 nb, .int .i64 db]] w fun e w' =>
      e = .returned (ratV (fracI (na * nb) (da.natAbs * db.natAbs))) ∧ Below w.heap.size w w' := by
  have HRA := Lib.hid ha
  have HRB := Lib.hid hb
  obtain ⟨a1, a2, a3, a4, a5⟩ := ha
  obtain ⟨b1, b2, b3, b4, b5⟩ := hb
  have ra : rightB na da = true := (rightB_iff na da ⟨by omega, by omega⟩ ⟨by omega, by omega⟩).2 HRA.out
  have rb : rightB nb db = true := (rightB_iff nb db ⟨by omega, by omega⟩ ⟨by omega, by omega⟩).2 HRB.out
  have ca := right_any na da ⟨by omega, by omega⟩ ⟨by omega, by omega⟩
  have cb := right_any nb db ⟨by omega, by omega⟩ ⟨by omega, by omega⟩
  rw [ra] at ca
  rw [rb] at cb
  have csa := size_any na ⟨by omega, by omega⟩
  have csb := size_any nb ⟨by omega, by omega⟩
  obtain ⟨D, rfl⟩ := Int.eq_ofNat_of_zero_le (show 0 ≤ da by omega)
  obtain ⟨E, rfl⟩ := Int.eq_ofNat_of_zero_le (show 0 ≤ db by omega)
  simp only [Int.natAbs_natCast] at *
  obtain ⟨F, hF⟩ : ∃ F, F = fracI (na * nb) (D * E) := ⟨_, rfl⟩
  rw [← hF]
  obtain ⟨sg, hsg⟩ : ∃ sg, sg = (decide (na < 0) != decide (nb < 0)) := ⟨_, rfl⟩
  have hs1 : (!(decide (na < 0) == decide (nb < 0))) = sg := hsg.symm
  have cP := product_any sg na.natAbs D nb.natAbs E a5 b5 (by omega) (by omega) (by omega) (by omega) (by omega) (by omega)
  rw [hsg, sgn_mul2, ← hF, ← hsg] at cP
  clear hF hsg
  clear a5 b5 ra rb HRA HRB
  generalize na.natAbs = A at *
  generalize nb.natAbs = B at *
  have hbx := box3 w #[.int .i64 na, .int .i64 D] #[.int .i64 nb, .int .i64 E] #[.int .i64 0, .int .i64 0] 23 23 23
  obtain ⟨ta, tb, tr, hsz, hbw⟩ := hbx
  have TA := Lib.hid ta
  have TB := Lib.hid tb
  have TR := Lib.hid tr
  have HSZ := Lib.hid hsz
  have HBW := Lib.hid hbw
  clear ta tb tr hsz hbw
  go_enter Tryz.func83, Tryz.ntmps83
  go_wp2_with fail
  with_reducible refine (ca _).mono ?_
  rintro e w1 ⟨rfl, hb1⟩
  clear ca
  have TA1 := Lib.hid (TA.out.keep hb1 (Nat.le_refl _))
  have TB1 := Lib.hid (TB.out.keep hb1 (Nat.le_refl _))
  have TR1 := Lib.hid (TR.out.keep hb1 (Nat.le_refl _))
  have HW1 := Lib.hid (HBW.out.trans (hb1.mono (by rw [HSZ.out]; omega)))
  obtain ⟨b0, b1, b2, b3⟩ := TB1.out.two
  clear hb1
  go_wp2_with fail
  with_reducible refine (cb _).mono ?_
  rintro e w2 ⟨rfl, hb2⟩
  have TR2 := Lib.hid (TR1.out.keep hb2 (Nat.le_refl _))
  have TB2 := Lib.hid (TB1.out.keep hb2 (Nat.le_refl _))
  have HW2 := Lib.hid (bstep HW1.out hb2 (Nat.le_refl _))
  obtain ⟨f0, f1, f2, f3⟩ := (TA1.out.keep hb2 (Nat.le_refl _)).two
  obtain ⟨g0, g1, g2, g3⟩ := TB2.out.two
  clear hb2 b0 b1 b2 b3 cb TA TB TR TA1 TB1 TR1 HW1 f2 f3 g2 g3
  obtain ⟨n, d, er, hfv⟩ := ratV_shape F
  have HFV := Lib.hid hfv
  rw [hfv] at cP
  clear hfv
  go_wp2_with fail
  have l0 := fun x : Later w2 => Later.cell f0 x
  have l1 := fun x : Later w2 => Later.cell f1 x
  have l2 := fun x : Later w2 => Later.cell g0 x
  have l3 := fun x : Later w2 => Later.cell g1 x
  refine wp_region_later 22 (by kernel_rfl) (by kernel_rfl) ?_
  simp only [List.take_succ_cons, List.take_zero, List.drop_succ_cons, List.drop_zero]
  repeat (go_big_quiet_step ((first | (go_at_call 31; with_reducible exact Later.same (csa _)) | (go_at_call 31; with_reducible exact Later.same (csb _)) | (go_at_call 89; with_reducible exact Later.made (cP _)))))
  refine wpQuiet_nil ?_
  rintro _ ⟨x, rfl⟩
  clear l0 l1 l2 l3 f0 f1 g0 g1
  obtain ⟨r0, r1, r2, r3⟩ := (Later.blk TR2.out x).two
  have HB3 := Lib.hid (bstep HW2.out x.below (Nat.le_refl _))
  generalize x.w = w3 at *
  go_wp2_with fail
  exact bodyPost_ret (v := .tuple #[.agg #[.int .i64 n, .int .i64 d], er]) (by simp [results, Tryz.results83, go_sem, r0, r1]) rfl ⟨by rw [HFV.out], (HB3.out.setCell (by simp; omega) _).setCell (by simp; omega) _⟩
end Go.Proofs.YtajebceanonalaaGreatDoor
