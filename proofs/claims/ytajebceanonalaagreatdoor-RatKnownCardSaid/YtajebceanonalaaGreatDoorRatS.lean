/-
  The walk of RatNear.
-/
import Derived.Test.YtajebceanonalaaGreatDoorRatR
import Derived.Lib.SmallJoins
namespace Go.Proofs.YtajebceanonalaaGreatDoor
set_option linter.unusedVariables false
open Go.RowKit

theorem roundI_near (n : Int) (D : Nat) (hD : 0 < D) : -(D : Int) ≤ 2 * (roundI n D * D - n) ∧ 2 * (roundI n D * D - n) ≤ D ∧ (2 * (roundI n D * D - n) = -D → roundI n D < 0) ∧ (2 * (roundI n D * D - n) = D → 0 < roundI n D) := by
  have h1 := Nat.div_add_mod (2 * n.natAbs + D) (2 * D)
  have h2 := Nat.mod_lt (2 * n.natAbs + D) (show 0 < 2 * D by omega)
  unfold roundI
  rw [Int.natAbs_natCast]
  unfold roundN
  generalize (2 * n.natAbs + D) / (2 * D) = R at *
  generalize (2 * n.natAbs + D) % (2 * D) = s at *
  rw [Nat.mul_assoc] at h1
  have h3 : R = 0 → D * R = 0 := fun h => by rw [h, Nat.mul_zero]
  have e1 : ((D * R : Nat) : Int) = (R : Int) * D := by rw [Int.natCast_mul, Int.mul_comm]
  generalize D * R = z at *
  by_cases h : n < 0
  · simp only [h, decide_true, sgn, if_true, Int.neg_mul, ← e1]
    omega
  · simp only [h, decide_false, sgn, Bool.false_eq_true, if_false, ← e1]
    omega

/-- what RatNear asks, in numbers -/
theorem near_law (n d : Int) (h : RightP n d) : ∃ N dn dd lo hi : Int, N = roundI n d ∧ In64 N ∧ In64 dn ∧ In64 dd ∧ sumV N 1 n d true = .tuple #[.agg #[.int .i64 dn, .int .i64 dd], .nilIface] ∧
    rightB dn dd = true ∧ cmpI dn dd (-1) 2 = lo ∧ cmpI dn dd 1 2 = hi ∧ 0 ≤ lo ∧ hi ≤ 0 ∧ (lo = 0 → N < 0) ∧ (hi = 0 → 0 < N) := by
  obtain ⟨h1, h2, h3, h4, h5⟩ := h
  obtain ⟨D, rfl⟩ := Int.eq_ofNat_of_zero_le (show 0 ≤ d by omega)
  have hr := roundI_near n D (by omega)
  have hN64 : In64 (roundI n D) := by
    have a1 := round_le n.natAbs D 9223372036854775808 (by omega) (by omega)
    have a2 : 0 ≤ n → roundN n.natAbs D ≤ 9223372036854775807 := fun h => round_le n.natAbs D _ (by omega) (by omega)
    unfold roundI In64 sgn
    rw [Int.natAbs_natCast]
    by_cases h : n < 0
    · simp only [h, decide_true, if_true]; omega
    · have := a2 (by omega)
      simp only [h, decide_false, Bool.false_eq_true, if_false]; omega
  obtain ⟨N, hN⟩ : ∃ N, N = roundI n D := ⟨_, rfl⟩
  rw [← hN] at hr hN64 ⊢
  obtain ⟨r1, r2, r3, r4⟩ := hr
  have e1 : N * (D : Int) + -n * 1 = N * D - n := by omega
  obtain ⟨X, hX⟩ : ∃ X, X = N * (D : Int) - n := ⟨_, rfl⟩
  rw [← hX] at r1 r2 r3 r4 e1
  obtain ⟨dn, dd, hf⟩ := fracI_fits X D (by omega) (by omega) (by omega)
  obtain ⟨hp, he⟩ := (fracI_iff X D (by omega) dn dd).1 hf
  have i2 : In64 dn := ⟨hp.2.2.1, hp.2.2.2.1⟩
  have i3 : In64 dd := ⟨by have := hp.1; omega, hp.2.1⟩
  have k1 := sign_of (u := 2 * dn + dd) (v := 2 * X + D) (D := D) (e := dd) (by omega) (by have := hp.1; omega) (by rw [Int.add_mul, Int.mul_assoc, he, Int.add_mul, Int.mul_assoc, Int.mul_comm dd])
  have k2 := sign_of (u := dd - 2 * dn) (v := D - 2 * X) (D := D) (e := dd) (by omega) (by have := hp.1; omega) (by rw [Int.sub_mul, Int.mul_assoc, he, Int.sub_mul, Int.mul_assoc, Int.mul_comm dd])
  refine ⟨N, dn, dd, cmpI dn dd (-1) 2, cmpI dn dd 1 2, rfl, hN64, i2, i3, ?_, (rightB_iff dn dd i2 i3).2 hp, rfl, rfl, ?_, ?_, ?_, ?_⟩
  · have a1 : rightB N 1 = true := (rightB_iff N 1 hN64 ⟨by decide, by decide⟩).2 ⟨by decide, by decide, hN64.1, hN64.2, Nat.gcd_one_right _⟩
    have a2 : rightB n D = true := (rightB_iff n D ⟨h3, h4⟩ ⟨by omega, h2⟩).2 ⟨h1, h2, h3, h4, h5⟩
    unfold sumV
    rw [a1, a2]
    simp only [Bool.and_self, if_true, e1]
    rw [show (1 : Int).natAbs * (D : Int).natAbs = D by simp, hf]
    rfl
  · unfold cmpI; split
    · omega
    · split <;> omega
  · unfold cmpI; split
    · omega
    · split <;> omega
  · intro h
    refine r3 ?_
    unfold cmpI at h
    split at h
    · omega
    · split at h
      · omega
      · omega
  · intro h
    refine r4 ?_
    unfold cmpI at h
    split at h
    · omega
    · split at h
      · omega
      · omega

set_option maxRecDepth 100000 in
set_option maxHeartbeats 2000000 in
theorem ratNear_bad (n d : Int) (h1 : In64 n) (h2 : In64 d) (hr : rightB n d = false) (w : World) :
    Calls Tryz.prog 44 #[.agg #[.int .i64 n, .int .i64 d]] w fun e w' => e = .returned (.bool true) ∧ Below w.heap.size w w' := by
  have cr := right_any n d h1 h2
  have co := round_any n d h1 h2
  rw [hr] at cr co
  simp only [Bool.false_eq_true, if_false, errV] at co
  have cw := works_any
  have hbx := box1 w #[.int .i64 n, .int .i64 d] 23
  obtain ⟨ta, hsz, hbw⟩ := hbx
  have TA := Lib.hid ta
  have HBW := Lib.hid hbw
  clear ta hsz hbw hr
  go_enter Tryz.func44, Tryz.ntmps44
  go_wp2_with fail
  with_reducible refine (co _).mono ?_
  rintro e w1 ⟨rfl, hb1⟩
  have HW1 := Lib.hid (bstep HBW.out hb1 (Nat.le_refl _))
  have TA1 := Lib.hid (TA.out.keep hb1 (Nat.le_refl _))
  obtain ⟨f0, f1, f2, f3⟩ := TA1.out.two
  have l0 := fun x : Later w1 => Later.cell f0 x
  have l1 := fun x : Later w1 => Later.cell f1 x
  clear hb1 co
  go_wp2_with fail
  refine wp_region_later0 (by kernel_rfl) (by kernel_rfl) ?_
  repeat (go_big_quiet_step ((first | (go_at_call 10; with_reducible exact Later.made (cw _)) | (go_at_call 11; with_reducible exact Later.made (cr _)))))
  refine wpQuiet_nil ?_
  rintro _ ⟨x, rfl⟩
  have HW2 := Lib.hid (bstep HW1.out x.below (Nat.le_refl _))
  clear l0 l1 f0 f1 f2 f3
  generalize x.w = w2 at *
  go_wp2_with fail
  go_ret
  exact ⟨rfl, HW2.out⟩

set_option maxRecDepth 100000 in
set_option maxHeartbeats 2000000 in
theorem ratNear_ok (n d : Int) (h1 : In64 n) (h2 : In64 d) (hr : rightB n d = true) (w : World) :
    Calls Tryz.prog 44 #[.agg #[.int .i64 n, .int .i64 d]] w fun e w' => e = .returned (.bool true) ∧ Below w.heap.size w w' := by
  have cr := right_any n d h1 h2
  have co := round_any n d h1 h2
  obtain ⟨N, dn, dd, lo, hi, hN, i1, i2, i3, hs, hrd, hlo, hhi, q1, q2, q3, q4⟩ := near_law n d ((rightB_iff n d h1 h2).1 hr)
  rw [hr] at cr co
  rw [← hN, if_pos rfl] at co
  have cs := sub_any N 1 n d i1 ⟨by decide, by decide⟩ h1 h2
  rw [hs] at cs
  have cl := cmp_any dn dd (-1) 2 i2 i3 ⟨by decide, by decide⟩ ⟨by decide, by decide⟩
  have ch := cmp_any dn dd 1 2 i2 i3 ⟨by decide, by decide⟩ ⟨by decide, by decide⟩
  rw [hrd, show rightB (-1) 2 = true by decide, hlo] at cl
  rw [hrd, show rightB 1 2 = true by decide, hhi] at ch
  simp only [Bool.and_self, if_true, cmpV] at cl ch
  have cw := works_any
  clear hN hs hrd hlo hhi
  have Q3 := Lib.hid q3
  have Q4 := Lib.hid q4
  clear q3 q4
  have hbx := box1 w #[.int .i64 n, .int .i64 d] 23
  obtain ⟨ta, hsz, hbw⟩ := hbx
  have TA := Lib.hid ta
  have HBW := Lib.hid hbw
  clear ta hsz hbw hr
  go_enter Tryz.func44, Tryz.ntmps44
  go_wp2_with fail
  with_reducible refine (co _).mono ?_
  rintro e w1 ⟨rfl, hb1⟩
  have HW1 := Lib.hid (bstep HBW.out hb1 (Nat.le_refl _))
  have TA1 := Lib.hid (TA.out.keep hb1 (Nat.le_refl _))
  obtain ⟨f0, f1, f2, f3⟩ := TA1.out.two
  have l0 := fun x : Later w1 => Later.cell f0 x
  have l1 := fun x : Later w1 => Later.cell f1 x
  clear hb1 co
  go_wp2_with fail
  refine wp_region_later0 (by kernel_rfl) (by kernel_rfl) ?_
  repeat (go_big_quiet_step ((first | (go_at_call 10; with_reducible exact Later.made (cw _)) | (go_at_call 11; with_reducible exact Later.made (cr _)))))
  refine wpQuiet_nil ?_
  rintro _ ⟨x, rfl⟩
  have HW2 := Lib.hid (bstep HW1.out x.below (Nat.le_refl _))
  obtain ⟨f0, f1, f2, f3⟩ := (Later.blk TA1.out x).two
  clear l0 l1
  generalize x.w = w2 at *
  go_wp2_with fail
  with_reducible refine (cs _).mono ?_
  rintro e w3 ⟨rfl, hb3⟩
  have HW3 := Lib.hid (bstep HW2.out hb3 (Nat.le_refl _))
  have hbx := box1 w3 #[.int .i64 dn, .int .i64 dd] 23
  obtain ⟨ta, hsz, hbw⟩ := hbx
  have TD := Lib.hid ta
  have HW4 := Lib.hid (bstep HW3.out hbw (Nat.le_refl _))
  clear ta hsz hbw hb3
  go_wp2_with fail
  with_reducible refine (cl _).mono ?_
  rintro e w4 ⟨rfl, hb4⟩
  have HW5 := Lib.hid (bstep HW4.out hb4 (Nat.le_refl _))
  obtain ⟨d0, d1, d2, d3⟩ := (TD.out.keep hb4 (Nat.le_refl _)).two
  clear hb4
  go_wp2_with fail
  with_reducible refine (ch _).mono ?_
  rintro e w5 ⟨rfl, hb5⟩
  have HW6 := Lib.hid (bstep HW5.out hb5 (Nat.le_refl _))
  clear hb5
  by_cases z1 : lo = 0
  · have k1 := Q3.out z1
    have b1 : (lo != 0) = false := by rw [z1]; rfl
    have b2 : (hi != 0) = true := by
      rw [bne_iff_ne]
      intro h
      have := Q4.out h
      omega
    have b3 : ¬ lo < 0 := by omega
    have b4 : ¬ 0 < hi := by omega
    clear z1
    go_wp2_with fail
    go_ret
    exact ⟨rfl, HW6.out⟩
  · have b1 : (lo != 0) = true := by rw [bne_iff_ne]; exact z1
    have b3 : ¬ lo < 0 := by omega
    have b4 : ¬ 0 < hi := by omega
    by_cases z2 : hi = 0
    · have k1 := Q4.out z2
      have b2 : (hi != 0) = false := by rw [z2]; rfl
      clear z1 z2
      go_wp2_with fail
      go_ret
      exact ⟨rfl, HW6.out⟩
    · have b2 : (hi != 0) = true := by rw [bne_iff_ne]; exact z2
      clear z1 z2
      go_wp2_with fail
      go_ret
      exact ⟨rfl, HW6.out⟩

theorem ratNear_walk (n d : Int) (h1 : In64 n) (h2 : In64 d) (w : World) :
    Calls Tryz.prog 44 #[.agg #[.int .i64 n, .int .i64 d]] w fun e w' => e = .returned (.bool true) ∧ Below w.heap.size w w' := by
  cases hr : rightB n d
  · exact ratNear_bad n d h1 h2 hr w
  · exact ratNear_ok n d h1 h2 hr w
end Go.Proofs.YtajebceanonalaaGreatDoor
