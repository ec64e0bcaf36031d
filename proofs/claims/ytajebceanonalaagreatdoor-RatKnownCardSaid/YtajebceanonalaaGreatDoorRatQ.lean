/-
  Contract of rat's Round.
-/
import Derived.Test.YtajebceanonalaaGreatDoorRatP
namespace Go.Proofs.YtajebceanonalaaGreatDoor
set_option linter.unusedVariables false
open Go.RowKit

theorem cmp_any (na da nb db : Int) (h1 : In64 na) (h2 : In64 da) (h3 : In64 nb) (h4 : In64 db) (w : World) :
    Calls Tryz.prog 79 #[.agg #[.int .i64 na, .int .i64 da], .agg #[.int .i64 nb, .int .i64 db]] w fun e w' =>
      e = .returned (if rightB na da && rightB nb db then cmpV (cmpI na da nb db) else argC) ∧ Below w.heap.size w w' := by
  cases ha : rightB na da
  · exact cmp_bad na da nb db h1 h2 h3 h4 (.inl ha) w
  · cases hb : rightB nb db
    · exact cmp_bad na da nb db h1 h2 h3 h4 (.inr hb) w
    · exact cmp_ok na da nb db ((rightB_iff na da h1 h2).1 ha) ((rightB_iff nb db h3 h4).1 hb) w

theorem round_le (A D M : Nat) (hD : 1 ≤ D) (hA : A ≤ M) : roundN A D ≤ M := by
  refine Nat.le_of_lt_succ ?_
  unfold roundN
  rw [Nat.div_lt_iff_lt_mul (by omega)]
  have h3 := Nat.mul_le_mul_left (2 * M) hD
  rw [Nat.mul_one] at h3
  rw [show M.succ * (2 * D) = 2 * M * D + 2 * D by rw [Nat.succ_mul, Nat.mul_left_comm, Nat.mul_assoc]]
  omega
theorem neg_conv64 (k : Nat) (h : k ≤ 9223372036854775808) : wrap64 (IntKind.u64.wrap (-(k : Int))) = -(k : Int) := neg_conv k h

theorem ret_rn {a b : Int} (h : a = b) : Ending.returned (.tuple #[.int .i64 a, .nilIface]) = .returned (.tuple #[.int .i64 b, .nilIface]) := by rw [h]

set_option maxRecDepth 100000 in
set_option maxHeartbeats 2000000 in
theorem round_any (n d : Int) (h1 : In64 n) (h2 : In64 d) (w : World) :
    Calls Tryz.prog 45 #[.agg #[.int .i64 n, .int .i64 d]] w fun e w' =>
      e = .returned (if rightB n d then .tuple #[.int .i64 (roundI n d), .nilIface] else .tuple #[.int .i64 0, errV 1]) ∧ Below w.heap.size w w' := by
  have ca := right_any n d h1 h2
  have hbx := box1 w #[.int .i64 n, .int .i64 d] 23
  obtain ⟨ta, hsz, hbw⟩ := hbx
  have TA := Lib.hid ta
  have HSZ := Lib.hid hsz
  have HBW := Lib.hid hbw
  clear ta hsz hbw
  cases hr : rightB n d
  · rw [hr] at ca
    go_enter Tryz.func45, Tryz.ntmps45
    go_wp2_with fail
    with_reducible refine (ca _).mono ?_
    rintro e w1 ⟨rfl, hb1⟩
    have HW1 := Lib.hid (bstep HBW.out hb1 (Nat.le_refl _))
    clear hb1 ca
    go_wp2_with fail
    go_ret2
    exact ⟨rfl, HW1.out⟩
  · rw [hr] at ca
    obtain ⟨a1, a2, a3, a4, a5⟩ := (rightB_iff n d h1 h2).1 hr
    clear hr a5 h1 h2
    have cs := size_any n ⟨a3, a4⟩
    obtain ⟨D, rfl⟩ := Int.eq_ofNat_of_zero_le (show 0 ≤ d by omega)
    have hA : n.natAbs ≤ 9223372036854775808 := by omega
    obtain ⟨R, hR⟩ : ∃ R, R = roundI n D := ⟨_, rfl⟩
    rw [if_pos rfl, ← hR]
    unfold roundI at hR
    rw [Int.natAbs_natCast] at hR
    have hle1 := round_le n.natAbs D 9223372036854775808 (by omega) hA
    have hle2 : 0 ≤ n → roundN n.natAbs D ≤ 9223372036854775807 := fun h => round_le n.natAbs D _ (by omega) (by omega)
    have hRv := roundN_val n.natAbs D (by omega)
    generalize n.natAbs = A at *
    obtain ⟨Q, hQ⟩ : ∃ Q, Q = roundN A D := ⟨_, rfl⟩
    rw [← hQ] at hR hRv hle1 hle2
    have hq1 : A / D ≤ A := Nat.div_le_self _ _
    have hm1 : A % D < D := Nat.mod_lt _ (by omega)
    have v1 : IntKind.u64.wrap ((A : Int) / (D : Int)) = ((A / D : Nat) : Int) := by rw [← Int.natCast_ediv]; exact wrapN _ (by omega)
    have HV2 := Lib.hid (show (A : Int) % (D : Int) = ((A % D : Nat) : Int) from (Int.natCast_emod _ _).symm)
    have hDz : ¬ D = 0 := by omega
    have hDz2 : ((D : Int) == 0) = false := by rw [beq_eq_false_iff_ne]; omega
    have HR := Lib.hid hR
    have HLE := Lib.hid (And.intro hle1 hle2)
    have HNC := Lib.hid (neg_conv64 Q hle1)
    clear hR hQ hle1 hle2
    generalize A / D = q at *
    generalize A % D = r at *
    have i1 : (A : Int) ≤ 9223372036854775808 := by omega
    have i2 : (q : Int) ≤ 9223372036854775808 := by omega
    have i3 : (r : Int) < D := by omega
    have HRV := Lib.hid hRv
    clear hA hq1 hm1 hRv
    go_enter Tryz.func45, Tryz.ntmps45
    go_wp2_with fail
    with_reducible refine (ca _).mono ?_
    rintro e w1 ⟨rfl, hb1⟩
    have HW1 := Lib.hid (bstep HBW.out hb1 (Nat.le_refl _))
    obtain ⟨f0, f1, f2, f3⟩ := (TA.out.keep hb1 (Nat.le_refl _)).two
    clear hb1 ca f2 f3
    go_wp2_with fail
    go_quiet ((go_at_call 31; exact (cs _).mono fun e w1 ⟨he, hw⟩ => ⟨he, _, hw⟩))
    go_wp2_with fail
    go_quiet (fail)
    rw [HV2.out]
    clear cs v1 HV2 hDz hDz2
    go_upto_region 5 with fail
    go_cut [32] (fun x wc => BoolIs (decide (0 < r ∧ D - r ≤ r)) x ∧ ∃ m, wc = w1.drewN m)
    case first =>
      by_cases c1 : 0 < r
      · by_cases c2 : D - r ≤ r
        · have k1 : (0 : Int) < r := by omega
          have k2 : (D : Int) - r ≤ r := by omega
          go_wp2_with fail
          go_meet
          case rel => exact ⟨by rw [decide_eq_true (And.intro c1 c2)]; rfl, _, rfl⟩
        · have k1 : (0 : Int) < r := by omega
          have k2 : ¬ (D : Int) - r ≤ r := by omega
          go_wp2_with fail
          go_meet
          case rel => exact ⟨by rw [decide_eq_false (fun h => c2 h.2)]; rfl, _, rfl⟩
      · have k1 : ¬ (0 : Int) < r := by omega
        go_wp2_with fail
        go_meet
        case rel => exact ⟨by rw [decide_eq_false (fun h => c1 h.1)]; rfl, _, rfl⟩
    case rest =>
      obtain ⟨rfl, m1, rfl⟩ := hcut
      obtain ⟨b, hb⟩ : ∃ b, b = decide (0 < r ∧ D - r ≤ r) := ⟨_, rfl⟩
      rw [← hb]
      have HQB := Lib.hid (show Q = if b = true then q + 1 else q by rw [HRV.out, hb]; simp only [decide_eq_true_eq])
      clear hb HRV i3
      have hle := HLE.out.1
      cases b
      · have HQ := Lib.hid (show Q = q from HQB.out)
        by_cases s1 : n < 0
        · have d1 : decide (n < 0) = true := decide_eq_true s1
          have HNC2 := Lib.hid (show wrap64 (IntKind.u64.wrap (-(q : Int))) = -(q : Int) by rw [← HQ.out]; exact HNC.out)
          go_wp2_with fail
          go_ret2
          exact ⟨by rw [HR.out, d1, HQ.out]; exact ret_rn HNC2.out, bdrN HW1.out _⟩
        · have d1 : decide (n < 0) = false := decide_eq_false s1
          have i9 : (q : Int) ≤ 9223372036854775807 := by have := HLE.out.2 (by omega); have := HQ.out; omega
          go_wp2_with fail
          go_ret2
          exact ⟨by rw [HR.out, d1, HQ.out]; exact ret_rn rfl, bdrN HW1.out _⟩
      · have HQ := Lib.hid (show Q = q + 1 from HQB.out)
        by_cases s1 : n < 0
        · have d1 : decide (n < 0) = true := decide_eq_true s1
          have HNC2 := Lib.hid (show wrap64 (IntKind.u64.wrap (-((q : Int) + 1))) = -((q : Int) + 1) by have h := HNC.out; rw [HQ.out] at h; simpa using h)
          have i9 : (q : Int) + 1 ≤ 9223372036854775808 := by have := HQ.out; omega
          go_wp2_with fail
          go_ret2
          exact ⟨by rw [HR.out, d1, HQ.out]; exact ret_rn (by rw [HNC2.out]; simp [sgn]), bdrN HW1.out _⟩
        · have d1 : decide (n < 0) = false := decide_eq_false s1
          have i9 : (q : Int) + 1 ≤ 9223372036854775807 := by have := HLE.out.2 (by omega); have := HQ.out; omega
          go_wp2_with fail
          go_ret2
          exact ⟨by rw [HR.out, d1, HQ.out]; exact ret_rn (by simp [sgn]), bdrN HW1.out _⟩
end Go.Proofs.YtajebceanonalaaGreatDoor
