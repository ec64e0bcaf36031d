/-
  Contracts of rat's Div, Add, Sub.
-/
import Derived.Test.YtajebceanonalaaGreatDoorRatJ
namespace Go.Proofs.YtajebceanonalaaGreatDoor
set_option linter.unusedVariables false
open Go.RowKit

def zeroV : Value := .tuple #[.agg #[.int .i64 0, .int .i64 0], errV 10]
theorem sgn_div2 (a b : Int) (E : Nat) : sgn (decide (a < 0) != decide (b < 0)) (a.natAbs * E) = if b < 0 then -(a * E) else a * E := by
  rw [sgn_mul]
  by_cases h1 : a < 0 <;> by_cases h2 : b < 0 <;> simp only [h1, h2, decide_true, decide_false, bne_self_eq_false, Bool.true_bne, Bool.false_bne, Bool.not_false, sgn, if_true, Bool.false_eq_true, if_false]
  · rw [show (a.natAbs : Int) = -a by omega, Int.neg_mul]
  · rw [show (-(a.natAbs : Int)) = a by omega]
  · rw [show (-(a.natAbs : Int)) = -a by omega, Int.neg_mul]
  · rw [show (a.natAbs : Int) = a by omega]

/-- what sum answers, of whatever two -/
def sumV (na da nb db : Int) (less : Bool) : Value :=
  if rightB na da && rightB nb db then ratV (fracI (na * db + (if less then -nb else nb) * da) (da.natAbs * db.natAbs)) else argV
def mulV (na da nb db : Int) : Value := if rightB na da && rightB nb db then ratV (fracI (na * nb) (da.natAbs * db.natAbs)) else argV
def divV (na da nb db : Int) : Value :=
  if rightB na da && rightB nb db then (if nb = 0 then zeroV else ratV (fracI (if nb < 0 then -(na * db) else na * db) (da.natAbs * nb.natAbs))) else argV

theorem sumV_shape (na da nb db : Int) (less : Bool) : ∃ n d er, sumV na da nb db less = .tuple #[.agg #[.int .i64 n, .int .i64 d], er] := by
  unfold sumV
  split
  · exact ratV_shape _
  · exact ⟨0, 0, errV 1, rfl⟩

theorem sum_any (na da nb db : Int) (less : Bool) (h1 : In64 na) (h2 : In64 da) (h3 : In64 nb) (h4 : In64 db) (w : World) :
    Calls Tryz.prog 76 #[.agg #[.int .i64 na, .int .i64 da], .agg #[.int .i64 nb, .int .i64 db], .bool less] w fun e w' => e = .returned (sumV na da nb db less) ∧ Below w.heap.size w w' := by
  unfold sumV
  cases ha : rightB na da
  · exact sum_bad na da nb db less h1 h2 h3 h4 (.inl ha) w
  · cases hb : rightB nb db
    · exact sum_bad na da nb db less h1 h2 h3 h4 (.inr hb) w
    · exact sum_ok na da nb db less ((rightB_iff na da h1 h2).1 ha) ((rightB_iff nb db h3 h4).1 hb) w
theorem mul_any (na da nb db : Int) (h1 : In64 na) (h2 : In64 da) (h3 : In64 nb) (h4 : In64 db) (w : World) :
    Calls Tryz.prog 83 #[.agg #[.int .i64 na, .int .i64 da], .agg #[.int .i64 nb, .int .i64 db]] w fun e w' => e = .returned (mulV na da nb db) ∧ Below w.heap.size w w' := by
  unfold mulV
  cases ha : rightB na da
  · exact mul_bad na da nb db h1 h2 h3 h4 (.inl ha) w
  · cases hb : rightB nb db
    · exact mul_bad na da nb db h1 h2 h3 h4 (.inr hb) w
    · exact mul_ok na da nb db ((rightB_iff na da h1 h2).1 ha) ((rightB_iff nb db h3 h4).1 hb) w

set_option maxRecDepth 100000 in
set_option maxHeartbeats 2000000 in
theorem div_bad (na da nb db : Int) (h1 : In64 na) (h2 : In64 da) (h3 : In64 nb) (h4 : In64 db) (hb : rightB na da = false ∨ rightB nb db = false) (w : World) :
    Calls Tryz.prog 46 #[.agg #[.int .i64 na, .int .i64 da], .agg #[.int .i64 nb, .int .i64 db]] w fun e w' => e = .returned argV ∧ Below w.heap.size w w' := by
  have ca := right_any na da h1 h2
  have cb := right_any nb db h3 h4
  have hbx := box3 w #[.int .i64 na, .int .i64 da] #[.int .i64 nb, .int .i64 db] #[.int .i64 0, .int .i64 0] 23 23 23
  obtain ⟨ta, tb, tr, hsz, hbw⟩ := hbx
  have TA := Lib.hid ta
  have TB := Lib.hid tb
  have TR := Lib.hid tr
  have HSZ := Lib.hid hsz
  have HBW := Lib.hid hbw
  clear ta tb tr hsz hbw
  cases ha : rightB na da
  · rw [ha] at ca
    go_enter Tryz.func46, Tryz.ntmps46
    go_wp2_with fail
    refine (ca _).mono ?_
    rintro e w1 ⟨rfl, hb1⟩
    clear ca cb
    obtain ⟨r0, r1, r2, r3⟩ := (TR.out.keep hb1 (Nat.le_refl _)).two
    have HFIN := Lib.hid (HBW.out.trans (hb1.mono (by rw [HSZ.out]; omega)))
    clear hb1
    go_wp2_with fail
    exact bodyPost_ret (v := argV) (by simp [results, Tryz.results46, go_sem, argV, errV, r0, r1]) rfl ⟨rfl, (HFIN.out.setCell (by simp; omega) _).setCell (by simp; omega) _⟩
  · have hb' : rightB nb db = false := by
      rcases hb with h | h
      · rw [ha] at h; cases h
      · exact h
    rw [ha] at ca
    rw [hb'] at cb
    go_enter Tryz.func46, Tryz.ntmps46
    go_wp2_with fail
    refine (ca _).mono ?_
    rintro e w1 ⟨rfl, hb1⟩
    clear ca
    have TB1 := Lib.hid (TB.out.keep hb1 (Nat.le_refl _))
    have TR1 := Lib.hid (TR.out.keep hb1 (Nat.le_refl _))
    have HFIN := Lib.hid (HBW.out.trans (hb1.mono (by rw [HSZ.out]; omega)))
    obtain ⟨b0, b1, b2, b3⟩ := TB1.out.two
    clear hb1
    go_wp2_with fail
    refine (cb _).mono ?_
    rintro e w2 ⟨rfl, hb2⟩
    obtain ⟨r0, r1, r2, r3⟩ := (TR1.out.keep hb2 (Nat.le_refl _)).two
    have HFIN2 := Lib.hid (bstep HFIN.out hb2 (Nat.le_refl _))
    clear hb2 b0 b1 b2 b3
    go_wp2_with fail
    exact bodyPost_ret (v := argV) (by simp [results, Tryz.results46, go_sem, argV, errV, r0, r1]) rfl ⟨rfl, (HFIN2.out.setCell (by simp; omega) _).setCell (by simp; omega) _⟩

set_option maxRecDepth 100000 in
set_option maxHeartbeats 2000000 in
theorem div_zero (na da nb db : Int) (ha : RightP na da) (hb : RightP nb db) (hn0 : nb = 0) (w : World) :
    Calls Tryz.prog 46 #[.agg #[.int .i64 na, .int .i64 da], .agg #[.int .i64 nb, .int .i64 db]] w fun e w' =>
      e = .returned zeroV ∧ Below w.heap.size w w' := by
  have HRA := Lib.hid ha
  have HRB := Lib.hid hb
  obtain ⟨a1, a2, a3, a4, a5⟩ := ha
  obtain ⟨b1, b2, b3, b4, b5⟩ := hb
  have ra : rightB na da = true := (rightB_iff na da ⟨by omega, by omega⟩ ⟨by omega, by omega⟩).2 HRA.out
  have rb : rightB nb db = true := (rightB_iff nb db ⟨by omega, by omega⟩ ⟨by omega, by omega⟩).2 HRB.out
  have ca := right_any na da ⟨by omega, by omega⟩ ⟨by omega, by omega⟩
  have cb := right_any nb db ⟨by omega, by omega⟩ ⟨by omega, by omega⟩
  rw [ra] at ca
  rw [rb] at cb
  clear a5 b5 ra rb
  have nz1 : (nb == 0) = true := by rw [beq_iff_eq]; exact hn0
  clear hn0
  have hbx := box3 w #[.int .i64 na, .int .i64 da] #[.int .i64 nb, .int .i64 db] #[.int .i64 0, .int .i64 0] 23 23 23
  obtain ⟨ta, tb, tr, hsz, hbw⟩ := hbx
  have TA := Lib.hid ta
  have TB := Lib.hid tb
  have TR := Lib.hid tr
  have HSZ := Lib.hid hsz
  have HBW := Lib.hid hbw
  clear ta tb tr hsz hbw
  go_enter Tryz.func46, Tryz.ntmps46
  go_wp2_with fail
  with_reducible refine (ca _).mono ?_
  rintro e w1 ⟨rfl, hb1⟩
  clear ca
  have TA1 := Lib.hid (TA.out.keep hb1 (Nat.le_refl _))
  have TB1 := Lib.hid (TB.out.keep hb1 (Nat.le_refl _))
  have TR1 := Lib.hid (TR.out.keep hb1 (Nat.le_refl _))
  have HW1 := Lib.hid (HBW.out.trans (hb1.mono (by rw [HSZ.out]; omega)))
  obtain ⟨b0, b1, b2, b3⟩ := TB1.out.two
  clear hb1
  go_wp2_with fail
  with_reducible refine (cb _).mono ?_
  rintro e w2 ⟨rfl, hb2⟩
  have TR2 := Lib.hid (TR1.out.keep hb2 (Nat.le_refl _))
  have TB2 := Lib.hid (TB1.out.keep hb2 (Nat.le_refl _))
  have HW2 := Lib.hid (bstep HW1.out hb2 (Nat.le_refl _))
  obtain ⟨f0, f1, f2, f3⟩ := (TA1.out.keep hb2 (Nat.le_refl _)).two
  obtain ⟨g0, g1, g2, g3⟩ := TB2.out.two
  clear hb2 b0 b1 b2 b3 cb TA TB TR TA1 TB1 TR1 HW1 f2 f3 g2 g3
  obtain ⟨r0, r1, r2, r3⟩ := TR2.out.two
  go_wp2_with fail
  exact bodyPost_ret (v := zeroV) (by simp [results, Tryz.results46, go_sem, zeroV, errV, r0, r1]) rfl ⟨rfl, (HW2.out.setCell (by simp; omega) _).setCell (by simp; omega) _⟩

set_option maxRecDepth 100000 in
set_option maxHeartbeats 2000000 in
theorem div_ok (na da nb db : Int) (ha : RightP na da) (hb : RightP nb db) (hn0 : nb ≠ 0) (w : World) :
    Calls Tryz.prog 46 #[.agg #[.int .i64 na, .int .i64 da], .agg #[.int .i64 nb, .int .i64 db]] w fun e w' =>
      e = .returned (ratV (fracI (if nb < 0 then -(na * db) else na * db) (da.natAbs * nb.natAbs))) ∧ Below w.heap.size w w' := by
  have HRA := Lib.hid ha
  have HRB := Lib.hid hb
  obtain ⟨a1, a2, a3, a4, a5⟩ := ha
  obtain ⟨b1, b2, b3, b4, b5⟩ := hb
  have ra : rightB na da = true := (rightB_iff na da ⟨by omega, by omega⟩ ⟨by omega, by omega⟩).2 HRA.out
  have rb : rightB nb db = true := (rightB_iff nb db ⟨by omega, by omega⟩ ⟨by omega, by omega⟩).2 HRB.out
  have ca := right_any na da ⟨by omega, by omega⟩ ⟨by omega, by omega⟩
  have cb := right_any nb db ⟨by omega, by omega⟩ ⟨by omega, by omega⟩
  rw [ra] at ca
  rw [rb] at cb
  have csa := size_any na ⟨by omega, by omega⟩
  have csb := size_any nb ⟨by omega, by omega⟩
  obtain ⟨D, rfl⟩ := Int.eq_ofNat_of_zero_le (show 0 ≤ da by omega)
  obtain ⟨E, rfl⟩ := Int.eq_ofNat_of_zero_le (show 0 ≤ db by omega)
  simp only [Int.natAbs_natCast] at *
  obtain ⟨F, hF⟩ : ∃ F, F = fracI (if nb < 0 then -(na * (E : Int)) else na * (E : Int)) (D * nb.natAbs) := ⟨_, rfl⟩
  rw [← hF]
  obtain ⟨sg, hsg⟩ : ∃ sg, sg = (decide (na < 0) != decide (nb < 0)) := ⟨_, rfl⟩
  have hs1 : (!(decide (na < 0) == decide (nb < 0))) = sg := hsg.symm
  have cP := product_any sg na.natAbs D E nb.natAbs a5 (by rw [Nat.gcd_comm]; exact b5) (by omega) (by omega) (by omega) (by omega) (by omega) (by omega)
  rw [hsg, sgn_div2, ← hF, ← hsg] at cP
  clear hF hsg
  have nz1 : (nb == 0) = false := by rw [beq_eq_false_iff_ne]; exact hn0
  clear a5 b5 ra rb HRA HRB hn0
  generalize na.natAbs = A at *
  generalize nb.natAbs = B at *
  have hbx := box3 w #[.int .i64 na, .int .i64 D] #[.int .i64 nb, .int .i64 E] #[.int .i64 0, .int .i64 0] 23 23 23
  obtain ⟨ta, tb, tr, hsz, hbw⟩ := hbx
  have TA := Lib.hid ta
  have TB := Lib.hid tb
  have TR := Lib.hid tr
  have HSZ := Lib.hid hsz
  have HBW := Lib.hid hbw
  clear ta tb tr hsz hbw
  go_enter Tryz.func46, Tryz.ntmps46
  go_wp2_with fail
  with_reducible refine (ca _).mono ?_
  rintro e w1 ⟨rfl, hb1⟩
  clear ca
  have TA1 := Lib.hid (TA.out.keep hb1 (Nat.le_refl _))
  have TB1 := Lib.hid (TB.out.keep hb1 (Nat.le_refl _))
  have TR1 := Lib.hid (TR.out.keep hb1 (Nat.le_refl _))
  have HW1 := Lib.hid (HBW.out.trans (hb1.mono (by rw [HSZ.out]; omega)))
  obtain ⟨b0, b1, b2, b3⟩ := TB1.out.two
  clear hb1
  go_wp2_with fail
  with_reducible refine (cb _).mono ?_
  rintro e w2 ⟨rfl, hb2⟩
  have TR2 := Lib.hid (TR1.out.keep hb2 (Nat.le_refl _))
  have TB2 := Lib.hid (TB1.out.keep hb2 (Nat.le_refl _))
  have HW2 := Lib.hid (bstep HW1.out hb2 (Nat.le_refl _))
  obtain ⟨f0, f1, f2, f3⟩ := (TA1.out.keep hb2 (Nat.le_refl _)).two
  obtain ⟨g0, g1, g2, g3⟩ := TB2.out.two
  clear hb2 b0 b1 b2 b3 cb TA TB TR TA1 TB1 TR1 HW1 f2 f3 g2 g3
  obtain ⟨n, d, er, hfv⟩ := ratV_shape F
  have HFV := Lib.hid hfv
  rw [hfv] at cP
  clear hfv
  go_wp2_with fail
  have l0 := fun x : Later w2 => Later.cell f0 x
  have l1 := fun x : Later w2 => Later.cell f1 x
  have l2 := fun x : Later w2 => Later.cell g0 x
  have l3 := fun x : Later w2 => Later.cell g1 x
  refine wp_region_later 22 (by kernel_rfl) (by kernel_rfl) ?_
  simp only [List.take_succ_cons, List.take_zero, List.drop_succ_cons, List.drop_zero]
  repeat (go_big_quiet_step ((first | (go_at_call 31; with_reducible exact Later.same (csa _)) | (go_at_call 31; with_reducible exact Later.same (csb _)) | (go_at_call 89; with_reducible exact Later.made (cP _)))))
  refine wpQuiet_nil ?_
  rintro _ ⟨x, rfl⟩
  clear l0 l1 l2 l3 f0 f1 g0 g1
  obtain ⟨r0, r1, r2, r3⟩ := (Later.blk TR2.out x).two
  have HB3 := Lib.hid (bstep HW2.out x.below (Nat.le_refl _))
  generalize x.w = w3 at *
  go_wp2_with fail
  exact bodyPost_ret (v := .tuple #[.agg #[.int .i64 n, .int .i64 d], er]) (by simp [results, Tryz.results46, go_sem, r0, r1]) rfl ⟨by rw [HFV.out], (HB3.out.setCell (by simp; omega) _).setCell (by simp; omega) _⟩

theorem div_any (na da nb db : Int) (h1 : In64 na) (h2 : In64 da) (h3 : In64 nb) (h4 : In64 db) (w : World) :
    Calls Tryz.prog 46 #[.agg #[.int .i64 na, .int .i64 da], .agg #[.int .i64 nb, .int .i64 db]] w fun e w' => e = .returned (divV na da nb db) ∧ Below w.heap.size w w' := by
  unfold divV
  cases ha : rightB na da
  · exact div_bad na da nb db h1 h2 h3 h4 (.inl ha) w
  · cases hb : rightB nb db
    · exact div_bad na da nb db h1 h2 h3 h4 (.inr hb) w
    · have ra := (rightB_iff na da h1 h2).1 ha
      have rb := (rightB_iff nb db h3 h4).1 hb
      by_cases h0 : nb = 0
      · have := div_zero na da nb db ra rb h0 w
        simpa [h0] using this
      · have := div_ok na da nb db ra rb h0 w
        simpa [h0] using this

set_option maxHeartbeats 1000000 in
theorem add_any (na da nb db : Int) (h1 : In64 na) (h2 : In64 da) (h3 : In64 nb) (h4 : In64 db) (w : World) :
    Calls Tryz.prog 34 #[.agg #[.int .i64 na, .int .i64 da], .agg #[.int .i64 nb, .int .i64 db]] w fun e w' => e = .returned (sumV na da nb db false) ∧ Below w.heap.size w w' := by
  have cs := sum_any na da nb db false h1 h2 h3 h4
  obtain ⟨n, d, er, hfv⟩ := sumV_shape na da nb db false
  rw [hfv] at cs ⊢
  clear hfv
  have hbx := box3 w #[.int .i64 na, .int .i64 da] #[.int .i64 nb, .int .i64 db] #[.int .i64 0, .int .i64 0] 23 23 23
  obtain ⟨ta, tb, tr, hsz, hbw⟩ := hbx
  have TR := Lib.hid tr
  have HSZ := Lib.hid hsz
  have HBW := Lib.hid hbw
  clear ta tb tr hsz hbw
  go_enter Tryz.func34, Tryz.ntmps34
  go_wp2_with fail
  with_reducible refine (cs _).mono ?_
  rintro e w1 ⟨rfl, hb1⟩
  clear cs
  obtain ⟨r0, r1, r2, r3⟩ := (TR.out.keep hb1 (Nat.le_refl _)).two
  have HFIN := Lib.hid (HBW.out.trans (hb1.mono (by rw [HSZ.out]; omega)))
  clear hb1
  go_wp2_with fail
  exact bodyPost_ret (v := .tuple #[.agg #[.int .i64 n, .int .i64 d], er]) (by simp [results, Tryz.results34, go_sem, r0, r1]) rfl ⟨rfl, (HFIN.out.setCell (by simp; omega) _).setCell (by simp; omega) _⟩

set_option maxHeartbeats 1000000 in
theorem sub_any (na da nb db : Int) (h1 : In64 na) (h2 : In64 da) (h3 : In64 nb) (h4 : In64 db) (w : World) :
    Calls Tryz.prog 82 #[.agg #[.int .i64 na, .int .i64 da], .agg #[.int .i64 nb, .int .i64 db]] w fun e w' => e = .returned (sumV na da nb db true) ∧ Below w.heap.size w w' := by
  have cs := sum_any na da nb db true h1 h2 h3 h4
  obtain ⟨n, d, er, hfv⟩ := sumV_shape na da nb db true
  rw [hfv] at cs ⊢
  clear hfv
  have hbx := box3 w #[.int .i64 na, .int .i64 da] #[.int .i64 nb, .int .i64 db] #[.int .i64 0, .int .i64 0] 23 23 23
  obtain ⟨ta, tb, tr, hsz, hbw⟩ := hbx
  have TR := Lib.hid tr
  have HSZ := Lib.hid hsz
  have HBW := Lib.hid hbw
  clear ta tb tr hsz hbw
  go_enter Tryz.func82, Tryz.ntmps82
  go_wp2_with fail
  with_reducible refine (cs _).mono ?_
  rintro e w1 ⟨rfl, hb1⟩
  clear cs
  obtain ⟨r0, r1, r2, r3⟩ := (TR.out.keep hb1 (Nat.le_refl _)).two
  have HFIN := Lib.hid (HBW.out.trans (hb1.mono (by rw [HSZ.out]; omega)))
  clear hb1
  go_wp2_with fail
  exact bodyPost_ret (v := .tuple #[.agg #[.int .i64 n, .int .i64 d], er]) (by simp [results, Tryz.results82, go_sem, r0, r1]) rfl ⟨rfl, (HFIN.out.setCell (by simp; omega) _).setCell (by simp; omega) _⟩
end Go.Proofs.YtajebceanonalaaGreatDoor
