/-
  Contract of rat's Cmp.
-/
import Derived.Test.YtajebceanonalaaGreatDoorRatK
namespace Go.Proofs.YtajebceanonalaaGreatDoor
set_option linter.unusedVariables false
open Go.RowKit

def argC : Value := .tuple #[.int .i64 0, errV 1]
set_option maxRecDepth 100000 in
set_option maxHeartbeats 2000000 in
theorem cmp_bad (na da nb db : Int) (h1 : In64 na) (h2 : In64 da) (h3 : In64 nb) (h4 : In64 db) (hb : rightB na da = false ∨ rightB nb db = false) (w : World) :
    Calls Tryz.prog 79 #[.agg #[.int .i64 na, .int .i64 da], .agg #[.int .i64 nb, .int .i64 db]] w fun e w' => e = .returned argC ∧ Below w.heap.size w w' := by
  have ca := right_any na da h1 h2
  have cb := right_any nb db h3 h4
  have hbx := box2 w #[.int .i64 na, .int .i64 da] #[.int .i64 nb, .int .i64 db] 23 23
  obtain ⟨ta, tb, hsz, hbw⟩ := hbx
  have TA := Lib.hid ta
  have TB := Lib.hid tb
  have HSZ := Lib.hid hsz
  have HBW := Lib.hid hbw
  clear ta tb hsz hbw
  cases ha : rightB na da
  · rw [ha] at ca
    go_enter Tryz.func79, Tryz.ntmps79
    go_wp2_with fail
    refine (ca _).mono ?_
    rintro e w1 ⟨rfl, hb1⟩
    clear ca cb
    have HFIN := Lib.hid (HBW.out.trans (hb1.mono (by rw [HSZ.out]; omega)))
    clear hb1
    go_wp2_with fail
    go_ret2
    exact ⟨rfl, HFIN.out⟩
  · have hb' : rightB nb db = false := by
      rcases hb with h | h
      · rw [ha] at h; cases h
      · exact h
    rw [ha] at ca
    rw [hb'] at cb
    go_enter Tryz.func79, Tryz.ntmps79
    go_wp2_with fail
    refine (ca _).mono ?_
    rintro e w1 ⟨rfl, hb1⟩
    clear ca
    have TB1 := Lib.hid (TB.out.keep hb1 (Nat.le_refl _))
    have HFIN := Lib.hid (HBW.out.trans (hb1.mono (by rw [HSZ.out]; omega)))
    obtain ⟨b0, b1, b2, b3⟩ := TB1.out.two
    clear hb1
    go_wp2_with fail
    refine (cb _).mono ?_
    rintro e w2 ⟨rfl, hb2⟩
    have HFIN2 := Lib.hid (bstep HFIN.out hb2 (Nat.le_refl _))
    clear hb2 b0 b1 b2 b3
    go_wp2_with fail
    go_ret2
    exact ⟨rfl, HFIN2.out⟩


def cmpV (c : Int) : Value := .tuple #[.int .i64 c, .nilIface]
set_option maxRecDepth 100000 in
set_option maxHeartbeats 2000000 in
theorem cmp_ok (na da nb db : Int) (ha : RightP na da) (hb : RightP nb db) (w : World) :
    Calls Tryz.prog 79 #[.agg #[.int .i64 na, .int .i64 da], .agg #[.int .i64 nb, .int .i64 db]] w fun e w' =>
      e = .returned (cmpV (cmpI na da nb db)) ∧ Below w.heap.size w w' := by
  have HRA := Lib.hid ha
  have HRB := Lib.hid hb
  obtain ⟨a1, a2, a3, a4, a5⟩ := ha
  obtain ⟨b1, b2, b3, b4, b5⟩ := hb
  have ra : rightB na da = true := (rightB_iff na da ⟨by omega, by omega⟩ ⟨by omega, by omega⟩).2 HRA.out
  have rb : rightB nb db = true := (rightB_iff nb db ⟨by omega, by omega⟩ ⟨by omega, by omega⟩).2 HRB.out
  have ca := right_any na da ⟨by omega, by omega⟩ ⟨by omega, by omega⟩
  have cb := right_any nb db ⟨by omega, by omega⟩ ⟨by omega, by omega⟩
  rw [ra] at ca
  rw [rb] at cb
  have csa := size_any na ⟨by omega, by omega⟩
  have csb := size_any nb ⟨by omega, by omega⟩
  have hcv := cmp_val na da nb db a1 b1
  obtain ⟨c, hc⟩ : ∃ c, c = cmpI na da nb db := ⟨_, rfl⟩
  rw [← hc] at hcv ⊢
  clear hc
  obtain ⟨D, rfl⟩ := Int.eq_ofNat_of_zero_le (show 0 ≤ da by omega)
  obtain ⟨E, rfl⟩ := Int.eq_ofNat_of_zero_le (show 0 ≤ db by omega)
  simp only [Int.natAbs_natCast] at *
  clear a5 b5 ra rb HRA HRB
  obtain ⟨lt, hlt⟩ : ∃ b, b = decide (na.natAbs * E < nb.natAbs * D) := ⟨_, rfl⟩
  obtain ⟨eq, heq⟩ : ∃ b, b = decide (na.natAbs * E = nb.natAbs * D) := ⟨_, rfl⟩
  have hcv2 : c = if (decide (na < 0) != decide (nb < 0)) = true then (if na < 0 then -1 else 1) else if eq = true then 0 else if lt = decide (na < 0) then 1 else -1 := by
    rw [hcv]; subst hlt heq; simp only [decide_eq_true_eq]
  clear hcv
  have hlt1 : lt = true ↔ na.natAbs * E < nb.natAbs * D := by rw [hlt, decide_eq_true_eq]
  have heq1 : eq = true ↔ na.natAbs * E = nb.natAbs * D := by rw [heq, decide_eq_true_eq]
  clear hlt heq
  have hA : na.natAbs ≤ 9223372036854775808 := by omega
  have hB : nb.natAbs ≤ 9223372036854775808 := by omega
  generalize na.natAbs = A at *
  generalize nb.natAbs = B at *
  have cP := Tryz.bits_Mul64 A E (by omega) (by omega)
  have cQ := Tryz.bits_Mul64 B D (by omega) (by omega)
  generalize A * E = P at *
  generalize B * D = Q at *
  have hlt2 : lt = true ↔ (P / 18446744073709551616 < Q / 18446744073709551616 ∨ (P / 18446744073709551616 = Q / 18446744073709551616 ∧ P % 18446744073709551616 < Q % 18446744073709551616)) := by
    rw [hlt1]; exact two_lt P Q
  have heq2 : eq = true ↔ (P / 18446744073709551616 = Q / 18446744073709551616 ∧ P % 18446744073709551616 = Q % 18446744073709551616) := by
    rw [heq1]; omega
  clear hlt1 heq1 hA hB
  generalize P / 18446744073709551616 = Ph at *
  generalize P % 18446744073709551616 = Pl at *
  generalize Q / 18446744073709551616 = Qh at *
  generalize Q % 18446744073709551616 = Ql at *
  have HLT := Lib.hid hlt2
  have HEQ := Lib.hid heq2
  have HCV := Lib.hid hcv2
  clear hlt2 heq2 hcv2
  have hbx := box2 w #[.int .i64 na, .int .i64 D] #[.int .i64 nb, .int .i64 E] 23 23
  obtain ⟨ta, tb, hsz, hbw⟩ := hbx
  have TA := Lib.hid ta
  have TB := Lib.hid tb
  have HSZ := Lib.hid hsz
  have HBW := Lib.hid hbw
  clear ta tb hsz hbw
  by_cases s1 : na < 0
  · by_cases s2 : nb < 0
    · have d1 : decide (na < 0) = true := decide_eq_true s1
      have d2 : decide (nb < 0) = true := decide_eq_true s2
      go_enter Tryz.func79, Tryz.ntmps79
      go_wp2_with fail
      with_reducible refine (ca _).mono ?_
      rintro e w1 ⟨rfl, hb1⟩
      clear ca
      have TA1 := Lib.hid (TA.out.keep hb1 (Nat.le_refl _))
      have TB1 := Lib.hid (TB.out.keep hb1 (Nat.le_refl _))
      have HW1 := Lib.hid (HBW.out.trans (hb1.mono (by rw [HSZ.out]; omega)))
      obtain ⟨b0, b1, b2, b3⟩ := TB1.out.two
      clear hb1
      go_wp2_with fail
      with_reducible refine (cb _).mono ?_
      rintro e w2 ⟨rfl, hb2⟩
      have HW2 := Lib.hid (bstep HW1.out hb2 (Nat.le_refl _))
      obtain ⟨f0, f1, f2, f3⟩ := (TA1.out.keep hb2 (Nat.le_refl _)).two
      obtain ⟨g0, g1, g2, g3⟩ := (TB1.out.keep hb2 (Nat.le_refl _)).two
      clear hb2 b0 b1 b2 b3 cb TA TB TA1 TB1 HW1 f2 f3 g2 g3
      go_wp2_with fail
      go_quiet (first | (go_at_call 31; exact (csa _).mono fun e w1 ⟨he, hw⟩ => ⟨he, _, hw⟩) | (go_at_call 74; exact (cP _).mono fun e w1 ⟨he, hw⟩ => ⟨he, _, hw⟩))
      go_wp2_with fail
      go_quiet (first | (go_at_call 31; exact (csb _).mono fun e w1 ⟨he, hw⟩ => ⟨he, _, hw⟩) | (go_at_call 74; exact (cQ _).mono fun e w1 ⟨he, hw⟩ => ⟨he, _, hw⟩))
      clear csa csb cP cQ
      go_upto_region 9 with fail
      go_cut [10] (fun x wc => BoolIs lt x ∧ ∃ m, wc = w2.drewN m)
      case first =>
        rcases Nat.lt_trichotomy Ph Qh with h | h | h
        · have k1 : (Ph : Int) < Qh := by omega
          have HL := Lib.hid (HLT.out.2 (.inl h))
          clear h
          go_wp2_with fail
          go_meet
          case rel => exact ⟨by rw [HL.out]; rfl, _, rfl⟩
        · subst h
          have k1 : ¬ (Ph : Int) < Ph := by omega
          have k2 : ((Ph : Int) == Ph) = true := beq_iff_eq.2 rfl
          have HL := Lib.hid (show decide (Pl < Ql) = lt by rw [Bool.eq_iff_iff, HLT.out, decide_eq_true_eq]; omega)
          go_wp2_with fail
          go_meet
          case rel => exact ⟨by rw [← HL.out]; rfl, _, rfl⟩
        · have k1 : ¬ (Ph : Int) < Qh := by omega
          have k2 : ((Ph : Int) == Qh) = false := by rw [beq_eq_false_iff_ne]; omega
          have HL := Lib.hid (show lt = false by rw [Bool.eq_false_iff, ne_eq, HLT.out]; omega)
          clear h
          go_wp2_with fail
          go_meet
          case rel => exact ⟨by rw [HL.out]; rfl, _, rfl⟩
      case rest =>
        obtain ⟨rfl, m1, rfl⟩ := hcut
        go_upto_region 10 with fail
        go_cut [63] (fun x wc => BoolIs eq x ∧ ∃ m, wc = w2.drewN m)
        case first =>
          by_cases h : Ph = Qh
          · subst h
            have k2 : ((Ph : Int) == Ph) = true := beq_iff_eq.2 rfl
            have HE := Lib.hid (show decide (Pl = Ql) = eq by rw [Bool.eq_iff_iff, HEQ.out, decide_eq_true_eq]; omega)
            have HE2 := Lib.hid (show ((Pl : Int) == Ql) = eq by rw [← HE.out, Bool.eq_iff_iff, beq_iff_eq, decide_eq_true_eq]; omega)
            go_wp2_with fail
            go_meet
            case rel => exact ⟨by first | (rw [HE2.out]; rfl) | (rw [← HE.out]; rfl), _, rfl⟩
          · have k2 : ((Ph : Int) == Qh) = false := by rw [beq_eq_false_iff_ne]; omega
            have HE := Lib.hid (show eq = false by rw [Bool.eq_false_iff, ne_eq, HEQ.out]; omega)
            clear h
            go_wp2_with fail
            go_meet
            case rel => exact ⟨by rw [HE.out]; rfl, _, rfl⟩
        case rest =>
          obtain ⟨rfl, m2, rfl⟩ := hcut
          clear HLT HEQ
          cases eq <;> cases lt
          all_goals
            go_wp2_with fail
            go_ret2
            exact ⟨by rw [HCV.out]; simp [cmpV, d2, s1], bdrN HW2.out _⟩
    · have d1 : decide (na < 0) = true := decide_eq_true s1
      have d2 : decide (nb < 0) = false := decide_eq_false s2
      go_enter Tryz.func79, Tryz.ntmps79
      go_wp2_with fail
      with_reducible refine (ca _).mono ?_
      rintro e w1 ⟨rfl, hb1⟩
      clear ca
      have TA1 := Lib.hid (TA.out.keep hb1 (Nat.le_refl _))
      have TB1 := Lib.hid (TB.out.keep hb1 (Nat.le_refl _))
      have HW1 := Lib.hid (HBW.out.trans (hb1.mono (by rw [HSZ.out]; omega)))
      obtain ⟨b0, b1, b2, b3⟩ := TB1.out.two
      clear hb1
      go_wp2_with fail
      with_reducible refine (cb _).mono ?_
      rintro e w2 ⟨rfl, hb2⟩
      have HW2 := Lib.hid (bstep HW1.out hb2 (Nat.le_refl _))
      obtain ⟨f0, f1, f2, f3⟩ := (TA1.out.keep hb2 (Nat.le_refl _)).two
      obtain ⟨g0, g1, g2, g3⟩ := (TB1.out.keep hb2 (Nat.le_refl _)).two
      clear hb2 b0 b1 b2 b3 cb TA TB TA1 TB1 HW1 f2 f3 g2 g3
      go_wp2_with fail
      go_ret2
      exact ⟨by rw [HCV.out]; simp [cmpV, d2, s1], HW2.out⟩
  · by_cases s2 : nb < 0
    · have d1 : decide (na < 0) = false := decide_eq_false s1
      have d2 : decide (nb < 0) = true := decide_eq_true s2
      go_enter Tryz.func79, Tryz.ntmps79
      go_wp2_with fail
      with_reducible refine (ca _).mono ?_
      rintro e w1 ⟨rfl, hb1⟩
      clear ca
      have TA1 := Lib.hid (TA.out.keep hb1 (Nat.le_refl _))
      have TB1 := Lib.hid (TB.out.keep hb1 (Nat.le_refl _))
      have HW1 := Lib.hid (HBW.out.trans (hb1.mono (by rw [HSZ.out]; omega)))
      obtain ⟨b0, b1, b2, b3⟩ := TB1.out.two
      clear hb1
      go_wp2_with fail
      with_reducible refine (cb _).mono ?_
      rintro e w2 ⟨rfl, hb2⟩
      have HW2 := Lib.hid (bstep HW1.out hb2 (Nat.le_refl _))
      obtain ⟨f0, f1, f2, f3⟩ := (TA1.out.keep hb2 (Nat.le_refl _)).two
      obtain ⟨g0, g1, g2, g3⟩ := (TB1.out.keep hb2 (Nat.le_refl _)).two
      clear hb2 b0 b1 b2 b3 cb TA TB TA1 TB1 HW1 f2 f3 g2 g3
      go_wp2_with fail
      go_ret2
      exact ⟨by rw [HCV.out]; simp [cmpV, d1, d2, s1], HW2.out⟩
    · have d1 : decide (na < 0) = false := decide_eq_false s1
      have d2 : decide (nb < 0) = false := decide_eq_false s2
      go_enter Tryz.func79, Tryz.ntmps79
      go_wp2_with fail
      with_reducible refine (ca _).mono ?_
      rintro e w1 ⟨rfl, hb1⟩
      clear ca
      have TA1 := Lib.hid (TA.out.keep hb1 (Nat.le_refl _))
      have TB1 := Lib.hid (TB.out.keep hb1 (Nat.le_refl _))
      have HW1 := Lib.hid (HBW.out.trans (hb1.mono (by rw [HSZ.out]; omega)))
      obtain ⟨b0, b1, b2, b3⟩ := TB1.out.two
      clear hb1
      go_wp2_with fail
      with_reducible refine (cb _).mono ?_
      rintro e w2 ⟨rfl, hb2⟩
      have HW2 := Lib.hid (bstep HW1.out hb2 (Nat.le_refl _))
      obtain ⟨f0, f1, f2, f3⟩ := (TA1.out.keep hb2 (Nat.le_refl _)).two
      obtain ⟨g0, g1, g2, g3⟩ := (TB1.out.keep hb2 (Nat.le_refl _)).two
      clear hb2 b0 b1 b2 b3 cb TA TB TA1 TB1 HW1 f2 f3 g2 g3
      go_wp2_with fail
      go_quiet (first | (go_at_call 31; exact (csa _).mono fun e w1 ⟨he, hw⟩ => ⟨he, _, hw⟩) | (go_at_call 74; exact (cP _).mono fun e w1 ⟨he, hw⟩ => ⟨he, _, hw⟩))
      go_wp2_with fail
      go_quiet (first | (go_at_call 31; exact (csb _).mono fun e w1 ⟨he, hw⟩ => ⟨he, _, hw⟩) | (go_at_call 74; exact (cQ _).mono fun e w1 ⟨he, hw⟩ => ⟨he, _, hw⟩))
      clear csa csb cP cQ
      go_upto_region 9 with fail
      go_cut [10] (fun x wc => BoolIs lt x ∧ ∃ m, wc = w2.drewN m)
      case first =>
        rcases Nat.lt_trichotomy Ph Qh with h | h | h
        · have k1 : (Ph : Int) < Qh := by omega
          have HL := Lib.hid (HLT.out.2 (.inl h))
          clear h
          go_wp2_with fail
          go_meet
          case rel => exact ⟨by rw [HL.out]; rfl, _, rfl⟩
        · subst h
          have k1 : ¬ (Ph : Int) < Ph := by omega
          have k2 : ((Ph : Int) == Ph) = true := beq_iff_eq.2 rfl
          have HL := Lib.hid (show decide (Pl < Ql) = lt by rw [Bool.eq_iff_iff, HLT.out, decide_eq_true_eq]; omega)
          go_wp2_with fail
          go_meet
          case rel => exact ⟨by rw [← HL.out]; rfl, _, rfl⟩
        · have k1 : ¬ (Ph : Int) < Qh := by omega
          have k2 : ((Ph : Int) == Qh) = false := by rw [beq_eq_false_iff_ne]; omega
          have HL := Lib.hid (show lt = false by rw [Bool.eq_false_iff, ne_eq, HLT.out]; omega)
          clear h
          go_wp2_with fail
          go_meet
          case rel => exact ⟨by rw [HL.out]; rfl, _, rfl⟩
      case rest =>
        obtain ⟨rfl, m1, rfl⟩ := hcut
        go_upto_region 10 with fail
        go_cut [63] (fun x wc => BoolIs eq x ∧ ∃ m, wc = w2.drewN m)
        case first =>
          by_cases h : Ph = Qh
          · subst h
            have k2 : ((Ph : Int) == Ph) = true := beq_iff_eq.2 rfl
            have HE := Lib.hid (show decide (Pl = Ql) = eq by rw [Bool.eq_iff_iff, HEQ.out, decide_eq_true_eq]; omega)
            have HE2 := Lib.hid (show ((Pl : Int) == Ql) = eq by rw [← HE.out, Bool.eq_iff_iff, beq_iff_eq, decide_eq_true_eq]; omega)
            go_wp2_with fail
            go_meet
            case rel => exact ⟨by first | (rw [HE2.out]; rfl) | (rw [← HE.out]; rfl), _, rfl⟩
          · have k2 : ((Ph : Int) == Qh) = false := by rw [beq_eq_false_iff_ne]; omega
            have HE := Lib.hid (show eq = false by rw [Bool.eq_false_iff, ne_eq, HEQ.out]; omega)
            clear h
            go_wp2_with fail
            go_meet
            case rel => exact ⟨by rw [HE.out]; rfl, _, rfl⟩
        case rest =>
          obtain ⟨rfl, m2, rfl⟩ := hcut
          clear HLT HEQ
          cases eq <;> cases lt
          all_goals
            go_wp2_with fail
            go_ret2
            exact ⟨by rw [HCV.out]; simp [cmpV, d1, d2], bdrN HW2.out _⟩
end Go.Proofs.YtajebceanonalaaGreatDoor
