/-
  The reference's Lowest: contract.
-/
import Derived.Test.YtajebceanonalaaGreatDoorNatF
import Derived.Test.YtajebceanonalaaGreatDoorRatD
import Derived.Test.YtajebceanonalaaGreatDoorBaseD
namespace Go.Proofs.YtajebceanonalaaGreatDoor
set_option linter.unusedVariables false
open Go.RowKit

/-- the reference's answer: a fraction and an error's number -/
def refV (r : Option (Int × Int)) : Value :=
  match r with
  | some (n, d) => .tuple #[.agg #[.int .i64 n, .int .i64 d], .int .i64 0]
  | none => .tuple #[.agg #[.int .i64 0, .int .i64 0], .int .i64 9]

theorem frac_zero (neg : Bool) (D : Nat) : frac neg 0 D = some (0, 1) := by
  unfold frac; rw [Nat.zero_div]; exact fitE_zero _ _
theorem lowest_val (neg : Bool) (N D p : Nat) (h : ComOK N D p) (hN : N ≠ 0) (hD : 0 < D) :
    frac neg N D = (if 9223372036854775807 < D / p ∨ 9223372036854775808 < N / p ∨ (N / p = 9223372036854775808 ∧ neg = false) then none else some (sgn neg (N / p), ((D / p : Nat) : Int))) ∧ 0 < p := by
  have hg : 0 < Nat.gcd N D := Nat.gcd_pos_of_pos_right N hD
  rcases h with rfl | ⟨hp, hdv, hle⟩
  · refine ⟨?_, hg⟩
    have h0 : N / Nat.gcd N D ≠ 0 := by
      have h1 := Nat.div_mul_cancel (Nat.gcd_dvd_left N D)
      intro h2
      rw [h2] at h1
      simp at h1
      omega
    unfold frac fitE
    rw [if_neg h0]
  · have h1 : 18446744073709551616 ≤ D / p := by rw [Nat.le_div_iff_mul_le hp, Nat.mul_comm]; exact hle
    have h2 : D / p ≤ D / Nat.gcd N D := Nat.div_le_div_left (Nat.le_of_dvd hp hdv) hg
    refine ⟨?_, hp⟩
    rw [if_pos (.inl (by omega))]
    have h0 : N / Nat.gcd N D ≠ 0 := by
      have h1 := Nat.div_mul_cancel (Nat.gcd_dvd_left N D)
      intro h2
      rw [h2] at h1
      simp at h1
      omega
    unfold frac fitE
    rw [if_neg h0, if_pos (.inl (by omega))]
theorem neg_back (k : Nat) (h : k ≤ 9223372036854775808) : wrap64 (-(wrap64 (k : Int))) = -(k : Int) := by
  unfold wrap64; omega

set_option maxRecDepth 100000 in
set_option maxHeartbeats 4000000 in
theorem lowest_any (neg : Bool) (N D : Nat) (hD : 0 < D) (hn : (digs N).length ≤ 100000) (hd : (digs D).length ≤ 100000) (a b : Option Addr) (ca cb : Nat) (w : World) (hs : SlD w a ca (digs N)) (ht : SlD w b cb (digs D)) :
    Calls Tryz.prog 28 #[.agg #[.bool neg, .slice a (digs N).length ca, .slice b (digs D).length cb]] w fun e w' => e = .returned (refV (frac neg N D)) ∧ Below w.heap.size w w' := by
  obtain ⟨ta, tr, hsz, hbw⟩ := box2 w #[.bool neg, .slice a (digs N).length ca, .slice b (digs D).length cb] #[.int .i64 0, .int .i64 0] 60 23
  have HS := Lib.hid (show NatV w (.slice a (digs N).length ca) N from ⟨a, ca, rfl, hs⟩)
  have HT := Lib.hid (show NatV w (.slice b (digs D).length cb) D from ⟨b, cb, rfl, ht⟩)
  have TA := Lib.hid ta
  have TR := Lib.hid tr
  have HB := Lib.hid hbw
  clear ta tr hsz
  by_cases hN : N = 0
  · subst hN
    have hl0 : (digs 0).length = 0 := by rw [digs_zero]; rfl
    rw [frac_zero]
    rw [hl0] at *
    clear HS HT hs ht hbw
    go_enter Tryz.func28, Tryz.ntmps28
    go_wp2_with fail
    exact bodyPost_ret (v := .tuple #[.agg #[.int .i64 0, .int .i64 1], .int .i64 0]) (by simp [results, Tryz.results28, go_sem]) rfl ⟨rfl, by first | exact ((Below.refl _ _).alloc (Nat.le_refl _) _).alloc (by simp) _ | exact (HB.out.setCell (by simp) _).setCell (by simp) _⟩
  · have hl0 : ¬ (digs N).length = 0 := by rw [List.length_eq_zero_iff, digs_nil]; exact hN
    have hl1 : (((digs N).length : Int) == 0) = false := by rw [beq_eq_false_iff_ne]; omega
    obtain ⟨F, hF⟩ : ∃ F, F = frac neg N D := ⟨_, rfl⟩
    rw [← hF]
    have HF := Lib.hid hF
    have cc := common_any N D a b ca cb hn hd _ (hs.keep hbw (Nat.le_refl _)) (ht.keep hbw (Nat.le_refl _))
    have HN0 := Lib.hid hN
    have HD0 := Lib.hid hD
    clear hF hs ht hbw hN hl0
    go_enter Tryz.func28, Tryz.ntmps28
    go_wp2_with fail
    with_reducible refine cc.mono ?_
    rintro e w1 ⟨v, p, rfl, ⟨ap, cp, rfl, hsp⟩, hcom, hlp, hb1⟩
    obtain ⟨hfv, hp⟩ := lowest_val neg N D p hcom HN0.out HD0.out
    rw [← HF.out] at hfv
    have HFV := Lib.hid hfv
    have HSP := Lib.hid hsp
    have HP := Lib.hid hp
    replace TA := Lib.hid (TA.out.keep hb1 (Nat.le_refl _))
    replace TR := Lib.hid (TR.out.keep hb1 (Nat.le_refl _))
    have HB1 := Lib.hid (bstep HB.out hb1 (Nat.le_refl _))
    obtain ⟨y0, y1, y2, y3, y4, y5⟩ := TA.out.three
    obtain ⟨aN, cN, hNe, hsN⟩ := HS.out.keep HB1.out
    obtain ⟨aD, cD, hDe, hsD⟩ := HT.out.keep HB1.out
    simp only [Value.slice.injEq, true_and] at hNe hDe
    obtain ⟨rfl, rfl⟩ := hNe
    obtain ⟨rfl, rfl⟩ := hDe
    have d1 := divided_any N p hp a ap ca cp hn hlp w1 hsN hsp
    clear cc hcom hfv hsp hp hb1 hsN hsD
    go_wp2_with fail
    with_reducible refine d1.mono ?_
    rintro e w2 ⟨v1, u1, rfl, ⟨a1, c1, rfl, hs1⟩, _, hb2⟩
    replace TA := Lib.hid (TA.out.keep hb2 (Nat.le_refl _))
    replace TR := Lib.hid (TR.out.keep hb2 (Nat.le_refl _))
    have HB2 := Lib.hid (bstep HB1.out hb2 (Nat.le_refl _))
    clear y0 y1 y2 y3 y4 y5
    obtain ⟨y0, y1, y2, y3, y4, y5⟩ := TA.out.three
    obtain ⟨aD, cD, hDe, hsD⟩ := HT.out.keep HB2.out
    simp only [Value.slice.injEq, true_and] at hDe
    obtain ⟨rfl, rfl⟩ := hDe
    have d2 := divided_any D p HP.out b ap cb cp hd hlp w2 hsD (HSP.out.keep hb2 (Nat.le_refl _))
    have HS1 := Lib.hid hs1
    clear d1 hb2 hsD hs1
    go_wp2_with fail
    with_reducible refine d2.mono ?_
    rintro e w3 ⟨v2, u2, rfl, ⟨a2, c2, rfl, hs2⟩, _, hb3⟩
    replace TA := Lib.hid (TA.out.keep hb3 (Nat.le_refl _))
    replace TR := Lib.hid (TR.out.keep hb3 (Nat.le_refl _))
    have HB3 := Lib.hid (bstep HB2.out hb3 (Nat.le_refl _))
    have e1 := word_any (N / p) a1 c1 w3 (HS1.out.keep hb3 (Nat.le_refl _))
    have e2 := word_any (D / p) a2 c2 w3 hs2
    clear y0 y1 y2 y3 y4 y5 d2 hb3 hs2
    generalize N / p = x at *
    generalize D / p = y at *
    obtain ⟨one, hone⟩ : ∃ o, o = decide (x < 18446744073709551616) := ⟨_, rfl⟩
    obtain ⟨two, htwo⟩ : ∃ o, o = decide (y < 18446744073709551616) := ⟨_, rfl⟩
    have hxm := Nat.mod_lt x (show 0 < 18446744073709551616 by decide)
    have hym := Nat.mod_lt y (show 0 < 18446744073709551616 by decide)
    have HXM := Lib.hid (fun h : x < 18446744073709551616 => Nat.mod_eq_of_lt h)
    have HYM := Lib.hid (fun h : y < 18446744073709551616 => Nat.mod_eq_of_lt h)
    rw [← hone] at e1
    rw [← htwo] at e2
    generalize x % 18446744073709551616 = xm at *
    generalize y % 18446744073709551616 = ym at *
    have HONE := Lib.hid hone
    have HTWO := Lib.hid htwo
    clear hone htwo
    generalize hlx : (digs x).length = lx at *
    generalize hly : (digs y).length = ly at *
    clear hlx hly
    obtain ⟨y0, y1, y2, y3, y4, y5⟩ := TA.out.three
    obtain ⟨r0, r1, r2, r3⟩ := TR.out.two
    go_wp2_with fail
    with_reducible refine e1.mono ?_
    rintro e w4 ⟨rfl, rfl⟩
    go_wp2_with fail
    with_reducible refine e2.mono ?_
    rintro e w4 ⟨rfl, rfl⟩
    clear e1 e2
    have nx1 : (xm : Int) ≤ 18446744073709551615 := by omega
    have ny1 : (ym : Int) ≤ 18446744073709551615 := by omega
    clear hxm hym
    by_cases hov : 9223372036854775807 < y ∨ 9223372036854775808 < x ∨ (x = 9223372036854775808 ∧ neg = false)
    · have HNONE := Lib.hid (show F = none by rw [HFV.out, if_pos hov])
      cases one
      · clear hov
        go_wp2_with fail
        exact bodyPost_ret (v := .tuple #[.agg #[.int .i64 0, .int .i64 0], .int .i64 9]) (by simp [results, Tryz.results28, go_sem, r0, r1]) rfl ⟨by rw [HNONE.out]; rfl, (HB3.out.setCell (by simp) _).setCell (by simp) _⟩
      · have hx64 : x < 18446744073709551616 := of_decide_eq_true HONE.out.symm
        have hxx := HXM.out hx64
        cases two
        · clear hov hxx hx64
          go_wp2_with fail
          exact bodyPost_ret (v := .tuple #[.agg #[.int .i64 0, .int .i64 0], .int .i64 9]) (by simp [results, Tryz.results28, go_sem, r0, r1]) rfl ⟨by rw [HNONE.out]; rfl, (HB3.out.setCell (by simp) _).setCell (by simp) _⟩
        · have hy64 : y < 18446744073709551616 := of_decide_eq_true HTWO.out.symm
          have hyy := HYM.out hy64
          by_cases c3 : 9223372036854775807 < y
          · have k3 : 9223372036854775807 < (ym : Int) := by omega
            clear hov hxx hyy hx64 hy64 c3
            go_wp2_with fail
            exact bodyPost_ret (v := .tuple #[.agg #[.int .i64 0, .int .i64 0], .int .i64 9]) (by simp [results, Tryz.results28, go_sem, r0, r1]) rfl ⟨by rw [HNONE.out]; rfl, (HB3.out.setCell (by simp) _).setCell (by simp) _⟩
          · have k3 : ¬ 9223372036854775807 < (ym : Int) := by omega
            by_cases c4 : 9223372036854775808 < x
            · have k4 : 9223372036854775808 < (xm : Int) := by omega
              clear hov hxx hyy hx64 hy64 c3 c4
              go_wp2_with fail
              exact bodyPost_ret (v := .tuple #[.agg #[.int .i64 0, .int .i64 0], .int .i64 9]) (by simp [results, Tryz.results28, go_sem, r0, r1]) rfl ⟨by rw [HNONE.out]; rfl, (HB3.out.setCell (by simp) _).setCell (by simp) _⟩
            · have k4 : ¬ 9223372036854775808 < (xm : Int) := by omega
              obtain ⟨hx63, rfl⟩ : x = 9223372036854775808 ∧ neg = false := by
                rcases hov with h | h | h
                · omega
                · omega
                · exact h
              have k5 : ((xm : Int) == 9223372036854775808) = true := by rw [beq_iff_eq]; omega
              clear hov hxx hyy hx64 hy64 c3 c4 hx63
              go_wp2_with fail
              exact bodyPost_ret (v := .tuple #[.agg #[.int .i64 0, .int .i64 0], .int .i64 9]) (by simp [results, Tryz.results28, go_sem, r0, r1]) rfl ⟨by rw [HNONE.out]; rfl, (HB3.out.setCell (by simp) _).setCell (by simp) _⟩
    · have HSOME := Lib.hid (show F = some (sgn neg x, (y : Int)) by rw [HFV.out, if_neg hov])
      have hx64 : x < 18446744073709551616 := by omega
      have hy64 : y < 18446744073709551616 := by omega
      have hxx := HXM.out hx64
      have hyy := HYM.out hy64
      subst hxx hyy
      have o1 : one = true := by rw [HONE.out]; exact decide_eq_true hx64
      have o2 : two = true := by rw [HTWO.out]; exact decide_eq_true hy64
      subst o1 o2
      have k3 : ¬ 9223372036854775807 < (ym : Int) := by omega
      have k4 : ¬ 9223372036854775808 < (xm : Int) := by omega
      have HNB := Lib.hid (neg_back xm (by omega))
      cases neg
      · have k5 : ((xm : Int) == 9223372036854775808) = false := by
          rw [beq_eq_false_iff_ne]; intro h; exact hov (.inr (.inr ⟨by omega, rfl⟩))
        have k6 : (xm : Int) ≤ 9223372036854775807 := by rw [beq_eq_false_iff_ne] at k5; omega
        clear hov hx64 hy64
        go_wp2_with fail
        exact bodyPost_ret (v := .tuple #[.agg #[.int .i64 xm, .int .i64 ym], .int .i64 0]) (by simp [results, Tryz.results28, go_sem, r0, r1]) rfl ⟨by rw [HSOME.out]; rfl, (HB3.out.setCell (by simp) _).setCell (by simp) _⟩
      · clear hov hx64 hy64
        by_cases c5 : (xm : Int) = 9223372036854775808
        · have k5 : ((xm : Int) == 9223372036854775808) = true := by rw [beq_iff_eq]; exact c5
          clear c5
          go_wp2_with fail
          exact bodyPost_ret (v := .tuple #[.agg #[.int .i64 (wrap64 (-(wrap64 (xm : Int)))), .int .i64 ym], .int .i64 0]) (by simp [results, Tryz.results28, go_sem, r0, r1]) rfl ⟨by rw [HNB.out, HSOME.out]; rfl, (HB3.out.setCell (by simp) _).setCell (by simp) _⟩
        · have k5 : ((xm : Int) == 9223372036854775808) = false := by rw [beq_eq_false_iff_ne]; exact c5
          have k6 : (xm : Int) ≤ 9223372036854775807 := by omega
          clear c5
          go_wp2_with fail
          exact bodyPost_ret (v := .tuple #[.agg #[.int .i64 (-(xm : Int)), .int .i64 ym], .int .i64 0]) (by simp [results, Tryz.results28, go_sem, r0, r1]) rfl ⟨by rw [HSOME.out]; rfl, (HB3.out.setCell (by simp) _).setCell (by simp) _⟩
end Go.Proofs.YtajebceanonalaaGreatDoor
