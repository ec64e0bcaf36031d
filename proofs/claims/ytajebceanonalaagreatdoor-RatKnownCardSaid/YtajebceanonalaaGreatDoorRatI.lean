/-
  Contracts of rat's product, Mul, Div, Add, Sub.
-/
import Derived.Test.YtajebceanonalaaGreatDoorRatH
import Derived.Test.YtajebceanonalaaGreatDoorCalm
namespace Go.Proofs.YtajebceanonalaaGreatDoor
set_option linter.unusedVariables false
open Go.RowKit

theorem ratV_shape (F : Option (Int × Int)) : ∃ n d er, ratV F = .tuple #[.agg #[.int .i64 n, .int .i64 d], er] := by
  cases F with
  | none => exact ⟨0, 0, errV 9, rfl⟩
  | some p => exact ⟨p.1, p.2, .nilIface, rfl⟩

set_option maxRecDepth 100000 in
set_option maxHeartbeats 1000000 in
theorem product_any (neg : Bool) (an ad bn bd : Nat) (ha : Nat.gcd an ad = 1) (hb : Nat.gcd bn bd = 1) (h1 : 0 < ad) (h2 : 0 < bd) (k1 : an < 18446744073709551616) (k2 : ad < 18446744073709551616) (k3 : bn < 18446744073709551616) (k4 : bd < 18446744073709551616) (w : World) :
    Calls Tryz.prog 89 #[.bool neg, .int .u64 an, .int .u64 ad, .int .u64 bn, .int .u64 bd] w fun e w' => e = .returned (ratV (fracI (sgn neg (an * bn)) (ad * bd))) ∧ Below w.heap.size w w' := by
  obtain ⟨g, hg⟩ : ∃ g, g = Nat.gcd bd an := ⟨_, rfl⟩
  obtain ⟨k, hk⟩ : ∃ k, k = Nat.gcd ad bn := ⟨_, rfl⟩
  have hF := prod_frac neg an ad bn bd ha hb h1 h2 g k hg hk
  have hg0 : 0 < g := hg ▸ Nat.gcd_pos_of_pos_left _ h2
  have hk0 : 0 < k := hk ▸ Nat.gcd_pos_of_pos_left _ h1
  have hgle : g ≤ bd := hg ▸ Nat.gcd_le_left _ h2
  have hkle : k ≤ ad := hk ▸ Nat.gcd_le_left _ h1
  have cg := fun w' => gcd_drew an bd k1 k4 w'
  have ck := fun w' => gcd_drew bn ad k3 k2 w'
  rw [← hg] at cg
  rw [← hk] at ck
  clear ha hb hg hk
  have d1 : an / g ≤ an := Nat.div_le_self _ _
  have d2 : bn / k ≤ bn := Nat.div_le_self _ _
  have d3 : ad / k ≤ ad := Nat.div_le_self _ _
  have d4 : bd / g ≤ bd := Nat.div_le_self _ _
  have v1 : IntKind.u64.wrap ((an : Int) / (g : Int)) = ((an / g : Nat) : Int) := by rw [← Int.natCast_ediv]; exact wrapN _ (by omega)
  have v2 : IntKind.u64.wrap ((bn : Int) / (k : Int)) = ((bn / k : Nat) : Int) := by rw [← Int.natCast_ediv]; exact wrapN _ (by omega)
  have v3 : IntKind.u64.wrap ((ad : Int) / (k : Int)) = ((ad / k : Nat) : Int) := by rw [← Int.natCast_ediv]; exact wrapN _ (by omega)
  have v4 : IntKind.u64.wrap ((bd : Int) / (g : Int)) = ((bd / g : Nat) : Int) := by rw [← Int.natCast_ediv]; exact wrapN _ (by omega)
  have m1 := Nat.mul_le_mul (show an / g ≤ 18446744073709551615 by omega) (show bn / k ≤ 18446744073709551615 by omega)
  have m2 := Nat.mul_le_mul (show ad / k ≤ 18446744073709551615 by omega) (show bd / g ≤ 18446744073709551615 by omega)
  have cM := Tryz.bits_Mul64 (an / g) (bn / k) (by omega) (by omega)
  have cD := Tryz.bits_Mul64 (ad / k) (bd / g) (by omega) (by omega)
  have cF := fit_any neg (an / g * (bn / k)) (ad / k * (bd / g)) (by omega) (by omega)
  rw [hF] at cF
  clear hF m1 m2 d1 d2 d3 d4
  generalize fracI (sgn neg (an * bn)) (ad * bd) = F at *
  generalize an / g * (bn / k) = M at *
  generalize ad / k * (bd / g) = D at *
  generalize an / g = x1 at *
  generalize bn / k = x2 at *
  generalize ad / k = x3 at *
  generalize bd / g = x4 at *
  generalize M / 18446744073709551616 = mh at *
  generalize M % 18446744073709551616 = ml at *
  generalize D / 18446744073709551616 = dh at *
  generalize D % 18446744073709551616 = dl at *
  have gz : ¬ g = 0 := by omega
  have kz : ¬ k = 0 := by omega
  have gz2 : ((g : Int) == 0) = false := by rw [beq_eq_false_iff_ne]; omega
  have kz2 : ((k : Int) == 0) = false := by rw [beq_eq_false_iff_ne]; omega
  have i1 : (an : Int) ≤ 18446744073709551615 := by omega
  have i2 : (ad : Int) ≤ 18446744073709551615 := by omega
  have i3 : (bn : Int) ≤ 18446744073709551615 := by omega
  have i4 : (bd : Int) ≤ 18446744073709551615 := by omega
  have i5 : (g : Int) ≤ 18446744073709551615 := by omega
  have i6 : (k : Int) ≤ 18446744073709551615 := by omega
  clear h1 h2 k1 k2 k3 k4 hg0 hk0 hgle hkle
  have hbx := box1 w #[.int .i64 0, .int .i64 0] 23
  obtain ⟨tr, hsz, hbw⟩ := hbx
  have TR := Lib.hid tr
  have HSZ := Lib.hid hsz
  have HBW := Lib.hid hbw
  clear tr hsz hbw
  go_enter Tryz.func89, Tryz.ntmps89
  go_wp2_with fail
  with_reducible refine (cg _).mono ?_
  rintro e w1 ⟨rfl, m1, rfl⟩
  go_wp2_with fail
  with_reducible refine (ck _).mono ?_
  rintro e w1 ⟨rfl, m2, rfl⟩
  clear cg ck
  go_wp2_with fail
  go_quiet ((go_at_call 74; exact (cM _).mono fun e w1 ⟨he, hw⟩ => ⟨he, _, hw⟩))
  go_wp2_with fail
  go_quiet ((go_at_call 74; exact (cD _).mono fun e w1 ⟨he, hw⟩ => ⟨he, _, hw⟩))
  clear cM cD v1 v2 v3 v4
  go_wp2_with fail
  with_reducible refine (cF _).mono ?_
  rintro e w2 ⟨rfl, hb2⟩
  obtain ⟨r0, r1, r2, r3⟩ := ((TR.out.drewN _).keep hb2 (Nat.le_refl _)).two
  have HB3 := Lib.hid (show Below w.heap.size w w2 from bstep (bdrN HBW.out _) hb2 (Nat.le_refl _))
  clear hb2 cF
  obtain ⟨n, d, er, hfv⟩ := ratV_shape F
  have HFV := Lib.hid hfv
  rw [hfv]
  clear hfv
  go_wp2_with fail
  exact bodyPost_ret (v := .tuple #[.agg #[.int .i64 n, .int .i64 d], er]) (by simp [results, Tryz.results89, go_sem, r0, r1]) rfl ⟨by rw [HFV.out], (HB3.out.setCell (by simp) _).setCell (by simp) _⟩
end Go.Proofs.YtajebceanonalaaGreatDoor
