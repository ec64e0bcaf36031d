/-
  Contract of rat's sum of two right fractions.
-/
import Derived.Test.YtajebceanonalaaGreatDoorRatG
namespace Go.Proofs.YtajebceanonalaaGreatDoor
set_option linter.unusedVariables false
open Go.RowKit

def BoolIs (b : Bool) (x : Value) : Prop := x = .bool b
def SumAt (N : Bool) (T : Nat) (h l ng : Value) (wc w2 : World) : Prop :=
  h = .int .u64 (T / 18446744073709551616 : Nat) ∧ l = .int .u64 (T % 18446744073709551616 : Nat) ∧ ng = .bool N ∧ ∃ m, wc = w2.drewN m

set_option maxRecDepth 100000 in
set_option maxHeartbeats 4000000 in
theorem sum_ok (na da nb db : Int) (less : Bool) (ha : RightP na da) (hb : RightP nb db) (w : World) :
    Calls Tryz.prog 76 #[.agg #[.int .i64 na, .int .i64 da], .agg #[.int .i64 nb, .int .i64 db], .bool less] w fun e w' =>
      e = .returned (ratV (fracI (na * db + (if less then -nb else nb) * da) (da.natAbs * db.natAbs))) ∧ Below w.heap.size w w' := by
  have HRA := Lib.hid ha
  have HRB := Lib.hid hb
  obtain ⟨a1, a2, a3, a4, a5⟩ := ha
  obtain ⟨b1, b2, b3, b4, b5⟩ := hb
  have ra : rightB na da = true := (rightB_iff na da ⟨by omega, by omega⟩ ⟨by omega, by omega⟩).2 HRA.out
  have rb : rightB nb db = true := (rightB_iff nb db ⟨by omega, by omega⟩ ⟨by omega, by omega⟩).2 HRB.out
  have ca := right_any na da ⟨by omega, by omega⟩ ⟨by omega, by omega⟩
  have cb := right_any nb db ⟨by omega, by omega⟩ ⟨by omega, by omega⟩
  rw [ra] at ca
  rw [rb] at cb
  have csa := size_any na ⟨by omega, by omega⟩
  have csb := size_any nb ⟨by omega, by omega⟩
  obtain ⟨D, rfl⟩ := Int.eq_ofNat_of_zero_le (show 0 ≤ da by omega)
  obtain ⟨E, rfl⟩ := Int.eq_ofNat_of_zero_le (show 0 ≤ db by omega)
  simp only [Int.natAbs_natCast] at *
  -- the numbers
  obtain ⟨g, hg⟩ : ∃ g, g = Nat.gcd E D := ⟨_, rfl⟩
  have hSF := fun r hr k hk => sum_frac na D nb E less HRA.out HRB.out g (by rw [Int.natAbs_natCast, Int.natAbs_natCast]; exact hg) r hr k hk
  simp only [Int.natAbs_natCast] at hSF
  have cg := fun w' => gcd_drew D E (by omega) (by omega) w'
  rw [← hg] at cg
  have hg0 : 0 < g := hg ▸ Nat.gcd_pos_of_pos_left _ (by omega)
  have hgle : g ≤ E := hg ▸ Nat.gcd_le_left _ (by omega)
  have hgd : E / g * g = E := Nat.div_mul_cancel (hg ▸ Nat.gcd_dvd_left _ _)
  have hgd2 : D / g * g = D := Nat.div_mul_cancel (hg ▸ Nat.gcd_dvd_right _ _)
  have hx1 : E / g ≤ E := Nat.div_le_self _ _
  have hy1 : D / g ≤ D := Nat.div_le_self _ _
  have hy0 : 0 < D / g := Nat.pos_of_ne_zero fun h => by rw [h] at hgd2; simp at hgd2; omega
  clear hg
  obtain ⟨F, hF⟩ : ∃ F, F = fracI (na * (E : Int) + (if less then -nb else nb) * (D : Int)) (D * E) := ⟨_, rfl⟩
  rw [← hF] at hSF ⊢
  clear hF
  have x1 : (E : Int) / (g : Int) = ((E / g : Nat) : Int) := (Int.natCast_ediv _ _).symm
  have x2 : (D : Int) / (g : Int) = ((D / g : Nat) : Int) := (Int.natCast_ediv _ _).symm
  have hA : na.natAbs ≤ 9223372036854775808 := by omega
  have hB : nb.natAbs ≤ 9223372036854775808 := by omega
  generalize na.natAbs = A at *
  generalize nb.natAbs = B at *
  generalize E / g = x at *
  generalize D / g = y at *
  have cP := Tryz.bits_Mul64 A x (by omega) (by omega)
  have cQ := Tryz.bits_Mul64 B y (by omega) (by omega)
  have hP : A * x ≤ 9223372036854775808 * 9223372036854775807 := Nat.mul_le_mul hA (by omega)
  have hQ : B * y ≤ 9223372036854775808 * 9223372036854775807 := Nat.mul_le_mul hB (by omega)
  generalize A * x = P at *
  generalize B * y = Q at *
  obtain ⟨Ph, hPh⟩ : ∃ z, z = P / 18446744073709551616 := ⟨_, rfl⟩
  obtain ⟨Pl, hPl⟩ : ∃ z, z = P % 18446744073709551616 := ⟨_, rfl⟩
  obtain ⟨Qh, hQh⟩ : ∃ z, z = Q / 18446744073709551616 := ⟨_, rfl⟩
  obtain ⟨Ql, hQl⟩ : ∃ z, z = Q % 18446744073709551616 := ⟨_, rfl⟩
  rw [← hPh, ← hPl] at cP
  rw [← hQh, ← hQl] at cQ
  have HPW := Lib.hid (And.intro (And.intro hPh hPl) (And.intro hQh hQl))
  have n1 : (Ph : Int) ≤ 18446744073709551615 := by omega
  have n2 : (Pl : Int) ≤ 18446744073709551615 := by omega
  have n3 : (Qh : Int) ≤ 18446744073709551615 := by omega
  have n4 : (Ql : Int) ≤ 18446744073709551615 := by omega
  clear hPh hPl hQh hQl
  obtain ⟨r, hr⟩ : ∃ r, r = sumT (decide (na < 0)) (decide (nb < 0) != less) P Q := ⟨_, rfl⟩
  have hSF2 := fun k hk => hSF r hr k hk
  clear hSF
  obtain ⟨sa, hsa⟩ : ∃ s, s = decide (na < 0) := ⟨_, rfl⟩
  obtain ⟨sb, hsb⟩ : ∃ s, s = (decide (nb < 0) != less) := ⟨_, rfl⟩
  rw [← hsa, ← hsb] at hr
  have qg : ((g : Int) == 0) = false := by rw [beq_eq_false_iff_ne]; omega
  have qn : ¬ g = 0 := by omega
  have i1 : (g : Int) ≤ 9223372036854775807 := by omega
  have i2 : 0 ≤ (g : Int) := by omega
  have i3 : (x : Int) ≤ 9223372036854775807 := by omega
  have i4 : (y : Int) ≤ 9223372036854775807 := by omega
  have HX := Lib.hid (And.intro hg0 (And.intro hgle (And.intro hgd (And.intro hgd2 (And.intro hx1 (And.intro hy1 hy0))))))
  have HPQ := Lib.hid (And.intro hP hQ)
  have HR := Lib.hid hr
  have v1 : IntKind.u64.wrap ((E : Int) / (g : Int)) = (x : Int) := by rw [x1]; exact wrapN _ (by omega)
  have v2 : IntKind.u64.wrap ((D : Int) / (g : Int)) = (y : Int) := by rw [x2]; exact wrapN _ (by omega)
  have HSF := Lib.hid hSF2
  clear x1 x2 hSF2
  have HSA := Lib.hid hsa
  have HSB := Lib.hid hsb
  clear hg0 hgle hgd hgd2 hx1 hy1 hy0 hP hQ hr hsa hsb hA hB ra rb
  have HDE := Lib.hid (And.intro a2 b2)
  clear a5 b5
  have hbx := box3 w #[.int .i64 na, .int .i64 D] #[.int .i64 nb, .int .i64 E] #[.int .i64 0, .int .i64 0] 23 23 23
  obtain ⟨ta, tb, tr, hsz, hbw⟩ := hbx
  have TA := Lib.hid ta
  have TB := Lib.hid tb
  have TR := Lib.hid tr
  have HSZ := Lib.hid hsz
  have HBW := Lib.hid hbw
  clear ta tb tr hsz hbw
  go_enter Tryz.func76, Tryz.ntmps76
  go_wp2_with fail
  refine (ca _).mono ?_
  rintro e w1 ⟨rfl, hb1⟩
  clear ca
  have TA1 := Lib.hid (TA.out.keep hb1 (Nat.le_refl _))
  have TB1 := Lib.hid (TB.out.keep hb1 (Nat.le_refl _))
  have TR1 := Lib.hid (TR.out.keep hb1 (Nat.le_refl _))
  have HW1 := Lib.hid (HBW.out.trans (hb1.mono (by rw [HSZ.out]; omega)))
  obtain ⟨b0, b1, b2, b3⟩ := TB1.out.two
  clear hb1
  go_wp2_with fail
  refine (cb _).mono ?_
  rintro e w2 ⟨rfl, hb2⟩
  have TR2 := Lib.hid (TR1.out.keep hb2 (Nat.le_refl _))
  have TB2 := Lib.hid (TB1.out.keep hb2 (Nat.le_refl _))
  have HW2 := Lib.hid (bstep HW1.out hb2 (Nat.le_refl _))
  obtain ⟨f0, f1, f2, f3⟩ := (TA1.out.keep hb2 (Nat.le_refl _)).two
  obtain ⟨g0, g1, g2, g3⟩ := TB2.out.two
  clear hb2 b0 b1 b2 b3 cb TA TB TR TA1 TB1 TR1 HW1 f2 f3 g2 g3
  go_wp2_with fail
  refine (cg _).mono ?_
  rintro e w3 ⟨rfl, m, rfl⟩
  go_wp2_with fail
  go_quiet (fail)
  clear v1 v2 cg
  go_wp2_with fail
  refine (csa _).mono ?_
  rintro e w4 ⟨rfl, rfl⟩
  go_wp2_with fail
  refine (cP _).mono ?_
  rintro e w4 ⟨rfl, rfl⟩
  go_wp2_with fail
  refine (csb _).mono ?_
  rintro e w4 ⟨rfl, rfl⟩
  go_wp2_with fail
  refine (cQ _).mono ?_
  rintro e w4 ⟨rfl, rfl⟩
  clear csa csb cP cQ
  go_upto_region 7 with fail
  go_cut [15, 16] (fun s t wc => BoolIs sa s ∧ BoolIs sb t ∧ ∃ m, wc = w2.drewN m)
  case first =>
    go_quiet (fail)
    go_wp2_with fail
    go_meet
    case rel =>
      refine ⟨by rw [HSA.out]; rfl, by rw [HSB.out]; rfl, ?_⟩
      exact ⟨_, World.drewN_drewN _ _ _⟩
  case rest =>
    obtain ⟨rfl, rfl, m2, rfl⟩ := hcut
    clear m
    obtain ⟨t, ht⟩ : ∃ t, t = (sa == sb) := ⟨_, rfl⟩
    have HTT := Lib.hid ht
    have hq : (sa == sb) = t := ht.symm
    clear ht
    go_upto_if 82 with fail
    clear hq
    go_cut [11, 12, 17] (fun h l ng wc => SumAt r.1 r.2 h l ng wc w2)
    case first =>
      -- DEV<
      cases t
      rotate_left
      · have hss : sa = sb := beq_iff_eq.1 HTT.out.symm
        obtain ⟨c, hc⟩ : ∃ c, c = (Pl + Ql + 0) / 18446744073709551616 := ⟨_, rfl⟩
        obtain ⟨sl, hsl⟩ : ∃ s, s = (Pl + Ql + 0) % 18446744073709551616 := ⟨_, rfl⟩
        obtain ⟨sh, hsh⟩ : ∃ s, s = (Ph + Qh + c) % 18446744073709551616 := ⟨_, rfl⟩
        have k1 := add64_run Pl Ql 0 (by omega)
        have k2 := add64_run Ph Qh c (by omega)
        rw [← hc, ← hsl] at k1
        rw [← hsh] at k2
        have HT : Hid (r = (sa, P + Q) ∧ (P + Q) / 18446744073709551616 = sh ∧ (P + Q) % 18446744073709551616 = sl) := Lib.hid (by
          obtain ⟨⟨e1, e2⟩, e3, e4⟩ := HPW.out
          obtain ⟨e5, e6⟩ := HPQ.out
          refine ⟨by rw [HR.out]; unfold sumT; rw [if_pos hss], ?_, ?_⟩ <;> omega)
        clear hc hsl hsh
        clear hss
        generalize (Ph + Qh + c) / 18446744073709551616 = c2 at *
        have k1 : ∀ w : World, (callFunc 120 #[.int .u64 Pl, .int .u64 Ql, .int .u64 0]).run Tryz.prog w = .ok (.value (.tuple #[.int .u64 (sl : Nat), .int .u64 (c : Nat)])) w := k1
        go_wp2_with fail
        go_meet
        case rel =>
          obtain ⟨e1, e2, e3⟩ := HT.out
          rw [e1]
          exact ⟨by rw [e2], by rw [e3], rfl, m2, rfl⟩
      · have hss : ¬ sa = sb := beq_eq_false_iff_ne.1 HTT.out.symm
        by_cases hlt : P < Q
        · obtain ⟨sl, hsl⟩ : ∃ s, s = (Ql + 18446744073709551616 - Pl - 0) % 18446744073709551616 := ⟨_, rfl⟩
          obtain ⟨c, hc⟩ : ∃ c, c = if Ql < Pl + 0 then 1 else 0 := ⟨_, rfl⟩
          have hc1 : c ≤ 1 := by rw [hc]; split <;> omega
          obtain ⟨sh, hsh⟩ : ∃ s, s = (Qh + 18446744073709551616 - Ph - c) % 18446744073709551616 := ⟨_, rfl⟩
          have k1 := sub64_run Ql Pl 0 (by omega)
          have k2 := sub64_run Qh Ph c hc1
          rw [← hc, ← hsl] at k1
          rw [← hsh] at k2
          have HT : Hid (r = (sb, Q - P) ∧ (Q - P) / 18446744073709551616 = sh ∧ (Q - P) % 18446744073709551616 = sl) := Lib.hid (by
            obtain ⟨⟨e1, e2⟩, e3, e4⟩ := HPW.out
            obtain ⟨e5, e6⟩ := HPQ.out
            refine ⟨by rw [HR.out]; unfold sumT; rw [if_neg hss, if_pos hlt], ?_, ?_⟩ <;> (split at hc <;> omega))
          have HW := Lib.hid (show Ph < Qh ∨ (Ph = Qh ∧ Pl < Ql) by
            obtain ⟨⟨e1, e2⟩, e3, e4⟩ := HPW.out
            rw [e1, e2, e3, e4]
            exact (two_lt P Q).1 hlt)
          clear hc hsl hsh hss hlt hc1
          generalize (if Qh < Ph + c then 1 else 0) = c2 at *
          have k1 : ∀ w : World, (callFunc 121 #[.int .u64 Ql, .int .u64 Pl, .int .u64 0]).run Tryz.prog w = .ok (.value (.tuple #[.int .u64 (sl : Nat), .int .u64 (c : Nat)])) w := k1
          rcases HW.out with hh | ⟨hh, hh2⟩
          · have hi : (Ph : Int) < Qh := by omega
            clear hh
            go_wp2_with fail
            go_meet
            case rel =>
              obtain ⟨e1, e2, e3⟩ := HT.out
              rw [e1]
              exact ⟨by rw [e2], by rw [e3], rfl, m2, rfl⟩
          · subst hh
            have hi : ¬ (Ph : Int) < Ph := by omega
            have hi2 : (Pl : Int) < Ql := by omega
            have hi3 : ((Ph : Int) == Ph) = true := beq_iff_eq.2 rfl
            clear hh2
            go_wp2_with fail
            go_meet
            case rel =>
              obtain ⟨e1, e2, e3⟩ := HT.out
              rw [e1]
              exact ⟨by rw [e2], by rw [e3], rfl, m2, rfl⟩
        · obtain ⟨sl, hsl⟩ : ∃ s, s = (Pl + 18446744073709551616 - Ql - 0) % 18446744073709551616 := ⟨_, rfl⟩
          obtain ⟨c, hc⟩ : ∃ c, c = if Pl < Ql + 0 then 1 else 0 := ⟨_, rfl⟩
          have hc1 : c ≤ 1 := by rw [hc]; split <;> omega
          obtain ⟨sh, hsh⟩ : ∃ s, s = (Ph + 18446744073709551616 - Qh - c) % 18446744073709551616 := ⟨_, rfl⟩
          have k1 := sub64_run Pl Ql 0 (by omega)
          have k2 := sub64_run Ph Qh c hc1
          rw [← hc, ← hsl] at k1
          rw [← hsh] at k2
          have HT : Hid (r = (sa, P - Q) ∧ (P - Q) / 18446744073709551616 = sh ∧ (P - Q) % 18446744073709551616 = sl) := Lib.hid (by
            obtain ⟨⟨e1, e2⟩, e3, e4⟩ := HPW.out
            obtain ⟨e5, e6⟩ := HPQ.out
            refine ⟨by rw [HR.out]; unfold sumT; rw [if_neg hss, if_neg hlt], ?_, ?_⟩ <;> (split at hc <;> omega))
          have HW := Lib.hid (show ¬ Ph < Qh ∧ (Ph = Qh → ¬ Pl < Ql) by
            obtain ⟨⟨e1, e2⟩, e3, e4⟩ := HPW.out
            rw [e1, e2, e3, e4]
            have := two_lt P Q
            omega)
          clear hc hsl hsh hss hlt hc1
          generalize (if Ph < Qh + c then 1 else 0) = c2 at *
          have k1 : ∀ w : World, (callFunc 121 #[.int .u64 Pl, .int .u64 Ql, .int .u64 0]).run Tryz.prog w = .ok (.value (.tuple #[.int .u64 (sl : Nat), .int .u64 (c : Nat)])) w := k1
          obtain ⟨hh, hh2⟩ := HW.out
          by_cases heq : Ph = Qh
          · have hh3 := hh2 heq
            subst heq
            have hi : ¬ (Ph : Int) < Ph := by omega
            have hi2 : ¬ (Pl : Int) < Ql := by omega
            have hi3 : ((Ph : Int) == Ph) = true := beq_iff_eq.2 rfl
            clear hh hh2 hh3
            go_wp2_with fail
            go_meet
            case rel =>
              obtain ⟨e1, e2, e3⟩ := HT.out
              rw [e1]
              exact ⟨by rw [e2], by rw [e3], rfl, m2, rfl⟩
          · have hi : ¬ (Ph : Int) < Qh := by omega
            have hi3 : ((Ph : Int) == Qh) = false := by rw [beq_eq_false_iff_ne]; omega
            clear hh hh2 heq
            go_wp2_with fail
            go_meet
            case rel =>
              obtain ⟨e1, e2, e3⟩ := HT.out
              rw [e1]
              exact ⟨by rw [e2], by rw [e3], rfl, m2, rfl⟩
      -- DEV>
    case rest =>
      obtain ⟨rfl, rfl, rfl, m3, rfl⟩ := hcut
      clear m2 HTT n1 n2 n3 n4 i3 i4 qn qg
      have HTB : Hid (r.2 ≤ 170141183460469231731687303715884105728) := Lib.hid (by
        obtain ⟨e5, e6⟩ := HPQ.out
        have e7 := sumT_cases sa sb P Q
        rw [← HR.out] at e7
        omega)
      clear HR HSA HSB HPQ HPW
      have hSF := HSF.out
      clear HSF
      obtain ⟨N, T⟩ := r
      simp only at hSF HTB ⊢
      by_cases hT0 : T = 0
      · subst hT0
        have HF := Lib.hid (hSF _ rfl)
        rw [Nat.zero_div, fitE_zero] at HF
        clear hSF
        obtain ⟨r0, r1, r2, r3⟩ := TR2.out.two
        go_wp2_with fail
        exact bodyPost_ret (v := .tuple #[.agg #[.int .i64 0, .int .i64 1], .nilIface]) (by simp [results, Tryz.results76, go_sem, r0, r1]) rfl ⟨by rw [← HF.out]; rfl, ((bdrN HW2.out _).setCell (by simp; omega) _).setCell (by simp; omega) _⟩
      · have htb := HTB.out
        obtain ⟨h1, h2, h3, h4, h5, h6, h7⟩ := HX.out
        obtain ⟨k, hk⟩ : ∃ k, k = Nat.gcd T g := ⟨_, rfl⟩
        have hk0 : 0 < k := hk ▸ Nat.gcd_pos_of_pos_right T h1
        have hkg : k ≤ g := hk ▸ Nat.gcd_le_right T h1
        have HF := Lib.hid (hSF k hk)
        have hgk : Nat.gcd (T % g) g = k := by rw [hk, Nat.gcd_comm T g, Nat.gcd_rec g T]
        have hug : T / 18446744073709551616 % g < g := Nat.mod_lt _ h1
        have huk : T / 18446744073709551616 % k < k := Nat.mod_lt _ hk0
        have cD1 := div64_any (T / 18446744073709551616 % g) (T % 18446744073709551616) g (by omega) hug (by omega)
        rw [two_mod] at cD1
        have cK := gcd_drew g (T % g) (by omega) (Nat.lt_trans (Nat.mod_lt _ h1) (by omega))
        rw [hgk] at cK
        have cD2 := div64_any (T / 18446744073709551616 % k) (T % 18446744073709551616) k (by omega) huk (by omega)
        rw [← two_div_lo T k hk0] at cD2
        have hek : E / k ≤ E := Nat.div_le_self _ _
        have cM := Tryz.bits_Mul64 y (E / k) (by omega) (by omega)
        have htk : T / k ≤ T := Nat.div_le_self _ _
        have hdd : y * (E / k) ≤ 9223372036854775807 * 9223372036854775807 := Nat.mul_le_mul (by omega) (by omega)
        have cF := fit_any N (T / k) (y * (E / k)) (by omega) (by omega)
        have hth := two_div_hi T k
        have v1 : ((T / 18446744073709551616 : Nat) : Int) % (g : Int) = ((T / 18446744073709551616 % g : Nat) : Int) := (Int.natCast_emod _ _).symm
        have v2 : IntKind.u64.wrap (((T / 18446744073709551616 : Nat) : Int) / (k : Int)) = ((T / k / 18446744073709551616 : Nat) : Int) := by
          rw [← Int.natCast_ediv, ← hth]; exact wrapN _ (by omega)
        have v3 : ((T / 18446744073709551616 : Nat) : Int) % (k : Int) = ((T / 18446744073709551616 % k : Nat) : Int) := (Int.natCast_emod _ _).symm
        have v4 : (E : Int) / (k : Int) = ((E / k : Nat) : Int) := (Int.natCast_ediv _ _).symm
        have hn : T / 18446744073709551616 ≠ 0 ∨ (T / 18446744073709551616 = 0 ∧ T % 18446744073709551616 ≠ 0) := by omega
        have n1 : ((T / 18446744073709551616 : Nat) : Int) ≤ 18446744073709551615 := by omega
        have n2 : ((T % 18446744073709551616 : Nat) : Int) ≤ 18446744073709551615 := by omega
        have n3 : ((E / k : Nat) : Int) ≤ 9223372036854775807 := by omega
        have n4 : ((T / k / 18446744073709551616 : Nat) : Int) ≤ 18446744073709551615 := by omega
        have n5 : ((T / k % 18446744073709551616 : Nat) : Int) ≤ 18446744073709551615 := by omega
        clear hth htk hdd hek hug huk hgk hk hSF htb
        generalize y * (E / k) = dd at *
        generalize dd / 18446744073709551616 = ddh at *
        generalize dd % 18446744073709551616 = ddl at *
        generalize E / k = ek at *
        generalize T / k / 18446744073709551616 = th at *
        generalize T / k % 18446744073709551616 = low at *
        generalize T / k = tk at *
        generalize T / 18446744073709551616 % g = ug at *
        generalize T / 18446744073709551616 % k = uk at *
        generalize T / 18446744073709551616 = hh at *
        generalize T % 18446744073709551616 = hl at *
        generalize (ug * 18446744073709551616 + hl) / g = q1 at *
        generalize (uk * 18446744073709551616 + hl) % k = q2 at *
        generalize T % g = sg at *
        have kz : ¬ k = 0 := by omega
        have kz2 : ((k : Int) == 0) = false := by rw [beq_eq_false_iff_ne]; omega
        have gz : ¬ g = 0 := by omega
        have gz2 : ((g : Int) == 0) = false := by rw [beq_eq_false_iff_ne]; omega
        have k1 : (k : Int) ≤ 9223372036854775807 := by omega
        have HN := Lib.hid hn
        clear h1 h2 h3 h4 h5 h6 h7 hk0 hkg hT0 hn
        go_upto_region 19 with fail
        go_cut [132] (fun b wc => BoolIs false b ∧ wc = w2.drewN m3)
        case first =>
          rcases HN.out with h0 | ⟨h0, h1⟩
          · have e1 : ((hh : Int) == 0) = false := by rw [beq_eq_false_iff_ne]; omega
            clear h0
            go_wp2_with fail
            go_meet
            case rel => exact ⟨rfl, rfl⟩
          · have e1 : ((hh : Int) == 0) = true := by rw [beq_iff_eq]; omega
            have e2 : ((hl : Int) == 0) = false := by rw [beq_eq_false_iff_ne]; omega
            clear h0 h1
            go_wp2_with fail
            go_meet
            case rel => exact ⟨rfl, rfl⟩
        case rest =>
          obtain ⟨rfl, rfl⟩ := hcut
          clear HN
          go_wp2_with fail
          refine (cD1 _).mono ?_
          rintro e w5 ⟨rfl, m4, rfl⟩
          go_wp2_with fail
          refine (cK _).mono ?_
          rintro e w5 ⟨rfl, m5, rfl⟩
          clear cD1 cK v1
          go_wp2_with fail
          go_quiet (fail)
          rw [← v3] at cD2
          clear v2 v3
          go_wp2_with fail
          with_reducible refine (cD2 _).mono ?_
          rintro e w5 ⟨rfl, m6, rfl⟩
          go_wp2_with fail
          with_reducible refine (cM _).mono ?_
          rintro e w5 ⟨rfl, rfl⟩
          clear cD2 cM v4
          rw [HF.out] at cF
          go_wp2_with fail
          with_reducible refine (cF _).mono ?_
          rintro e w6 ⟨rfl, hb6⟩
          have hb7 : Below w2.heap.size w2 w6 := bstep (bdrN (Below.refl _ _) _) hb6 (Nat.le_refl _)
          obtain ⟨r0, r1, r2, r3⟩ := (TR2.out.keep hb7 (Nat.le_refl _)).two
          have HB8 := Lib.hid (bstep HW2.out hb7 (Nat.le_refl _))
          clear hb6 hb7 cF f0 f1 g0 g1
          have HFV : ∃ n d er, ratV F = .tuple #[.agg #[.int .i64 n, .int .i64 d], er] := by
            cases F with
            | none => exact ⟨0, 0, errV 9, rfl⟩
            | some p => exact ⟨p.1, p.2, .nilIface, rfl⟩
          obtain ⟨n, d, er, hfv⟩ := HFV
          have HFV := Lib.hid hfv
          rw [hfv]
          clear hfv
          go_wp2_with fail
          exact bodyPost_ret (v := .tuple #[.agg #[.int .i64 n, .int .i64 d], er]) (by simp [results, Tryz.results76, go_sem, r0, r1]) rfl ⟨by rw [HFV.out], (HB8.out.setCell (by simp; omega) _).setCell (by simp; omega) _⟩
end Go.Proofs.YtajebceanonalaaGreatDoor
