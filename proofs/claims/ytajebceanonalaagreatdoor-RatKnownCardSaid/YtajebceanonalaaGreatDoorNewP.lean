/-
  Contract of rat's New.
-/
import Derived.Test.YtajebceanonalaaGreatDoorRatG
import Derived.Test.YtajebceanonalaaGreatDoorBaseC
import Derived.Test.YtajebceanonalaaGreatDoorCalm
namespace Go.Proofs.YtajebceanonalaaGreatDoor
set_option linter.unusedVariables false
open Go.RowKit

theorem ratV_form (F : Option (Int × Int)) : ∃ n d : Int, ∃ er, ratV F = .tuple #[.agg #[.int .i64 n, .int .i64 d], er] ∧ (er = .nilIface ∨ er = errV 9) := by
  rcases F with _ | ⟨n, d⟩
  · exact ⟨0, 0, _, rfl, Or.inr rfl⟩
  · exact ⟨n, d, _, rfl, Or.inl rfl⟩

set_option maxRecDepth 100000 in
set_option maxHeartbeats 2000000 in
theorem new_any (n d : Int) (hn : In64 n) (hd : In64 d) (w : World) :
    Calls Tryz.prog 40 #[.int .i64 n, .int .i64 d] w fun e w' => e = .returned (if d = 0 then .tuple #[.agg #[.int .i64 0, .int .i64 0], errV 10] else ratV (frac (decide (n < 0) != decide (d < 0)) n.natAbs d.natAbs)) ∧ Below w.heap.size w w' := by
  by_cases h0 : d = 0
  · subst h0
    rw [if_pos rfl]
    have HB0 := Lib.hid (Below.refl w.heap.size w)
    go_enter Tryz.func40, Tryz.ntmps40
    go_wp2_with fail
    exact bodyPost_ret (v := .tuple #[.agg #[.int .i64 0, .int .i64 0], errV 10]) (by simp [results, Tryz.results40, go_sem, errV]) rfl ⟨rfl, by first | exact HB0.out | exact HB0.out.alloc (Nat.le_refl _) _ | exact (HB0.out.alloc (Nat.le_refl _) _).alloc (by simp) _⟩
  · rw [if_neg h0]
    have hz : (d == 0) = false := by rw [beq_eq_false_iff_ne]; exact h0
    unfold In64 at hn hd
    have s1 := size_any n hn
    have s2 := size_any d hd
    have hnl : n.natAbs < 18446744073709551616 := by omega
    have hdl : d.natAbs < 18446744073709551616 := by omega
    have hD0 : 0 < d.natAbs := by omega
    obtain ⟨ta, hsz, hbw⟩ := box1 w #[.int .i64 0, .int .i64 0] 23
    have TR := Lib.hid ta
    have HBA := Lib.hid hbw
    clear ta hsz hbw
    obtain ⟨sg, hsg⟩ : ∃ sg, sg = (decide (n < 0) != decide (d < 0)) := ⟨_, rfl⟩
    rw [← hsg]
    obtain ⟨F, hF⟩ : ∃ F, F = frac sg n.natAbs d.natAbs := ⟨_, rfl⟩
    rw [← hF]
    have HF := Lib.hid hF
    clear hF
    generalize n.natAbs = N at *
    generalize d.natAbs = D at *
    have hsg2 : (!decide (n < 0) == decide (d < 0)) = sg := by rw [hsg]; cases decide (n < 0) <;> cases decide (d < 0) <;> rfl
    have HSG := Lib.hid hsg2
    clear hsg hsg2
    have cg := gcd_any N D hnl hdl
    have hg0 : 0 < Nat.gcd D N := Nat.gcd_pos_of_pos_left _ hD0
    have hgl : Nat.gcd D N < 18446744073709551616 := Nat.lt_of_le_of_lt (Nat.gcd_le_left _ hD0) hdl
    have HGE : Hid (Nat.gcd D N = Nat.gcd N D) := Lib.hid (Nat.gcd_comm _ _)
    have HG1 := Lib.hid (And.intro hg0 hgl)
    obtain ⟨g, hg⟩ : ∃ g, g = Nat.gcd D N := ⟨_, rfl⟩
    rw [← hg] at cg HG1 HGE
    have hgp : 0 < g := HG1.out.1
    have hgz : ((g : Int) == 0) = false := by rw [beq_eq_false_iff_ne]; omega
    clear hg hg0 hgl
    go_enter Tryz.func40, Tryz.ntmps40
    go_wp2_with fail
    with_reducible refine (s1 _).mono ?_
    rintro e w1 ⟨rfl, rfl⟩
    go_wp2_with fail
    with_reducible refine (s2 _).mono ?_
    rintro e w1 ⟨rfl, rfl⟩
    go_wp2_with fail
    with_reducible refine (cg _).mono ?_
    rintro e w2 ⟨rfl, hbA⟩
    go_wp2_with fail
    have hq1 : N / g < 18446744073709551616 := Nat.lt_of_le_of_lt (Nat.div_le_self _ _) hnl
    have hq2 : D / g < 18446744073709551616 := Nat.lt_of_le_of_lt (Nat.div_le_self _ _) hdl
    have w1 : IntKind.u64.wrap ((N : Int) / (g : Int)) = ((N / g : Nat) : Int) := by rw [← Int.natCast_ediv]; exact wrapN _ hq1
    have w2' : IntKind.u64.wrap ((D : Int) / (g : Int)) = ((D / g : Nat) : Int) := by rw [← Int.natCast_ediv]; exact wrapN _ hq2
    have cF : ∀ w, Calls Tryz.prog 21 #[.bool (!decide (n < 0) == decide (d < 0)), .int .u64 0, .int .u64 (N / g : Nat), .int .u64 0, .int .u64 (D / g : Nat)] w fun e w' => e = .returned (ratV F) ∧ Below w.heap.size w w' := fun w => by
      have h := fit_any sg (N / g) (D / g) (by omega) (by omega) w
      rw [Nat.div_eq_of_lt hq1, Nat.div_eq_of_lt hq2, Nat.mod_eq_of_lt hq1, Nat.mod_eq_of_lt hq2] at h
      rw [HF.out, HSG.out]
      unfold frac
      rw [← HGE.out]
      exact h
    obtain ⟨nn, dd, er, hfv, _⟩ := ratV_form F
    have HFV := Lib.hid hfv
    rw [hfv] at cF
    clear hfv HF
    generalize N / g = q1 at *
    generalize D / g = q2 at *
    have hgn : ¬ g = 0 := by omega
    have TR2 := Lib.hid (TR.out.keep hbA (Nat.le_refl _))
    have HB2 := Lib.hid (bstep HBA.out hbA (Nat.le_refl _))
    clear hbA TR HBA
    refine wp_region_later 14 (by kernel_rfl) (by kernel_rfl) ?_
    simp only [List.take_succ_cons, List.take_zero, List.drop_succ_cons, List.drop_zero]
    repeat (go_big_quiet_step ((go_at_call 21; with_reducible exact Later.made (cF _))))
    refine wpQuiet_nil ?_
    rintro _ ⟨x, rfl⟩
    obtain ⟨r0, r1, r2, r3⟩ := (Later.blk TR2.out x).two
    have HB3 := Lib.hid (bstep HB2.out x.below (Nat.le_refl _))
    generalize x.w = w3 at *
    go_wp2_with fail
    exact bodyPost_ret (v := .tuple #[.agg #[.int .i64 nn, .int .i64 dd], er]) (by simp [results, Tryz.results40, go_sem, r0, r1]) rfl ⟨by rw [HFV.out], (HB3.out.setCell (by simp) _).setCell (by simp) _⟩
end Go.Proofs.YtajebceanonalaaGreatDoor
