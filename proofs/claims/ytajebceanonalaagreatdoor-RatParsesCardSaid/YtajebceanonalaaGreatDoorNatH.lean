/-
  The reference's size, Right, New: contracts.
-/
import Derived.Test.YtajebceanonalaaGreatDoorNatG
import Derived.Test.YtajebceanonalaaGreatDoorBaseC
import Derived.Deep.RegionHeld3
namespace Go.Proofs.YtajebceanonalaaGreatDoor
set_option linter.unusedVariables false
open Go.RowKit

set_option maxHeartbeats 1000000 in
theorem refsize_any (n : Int) (hn : -9223372036854775808 ≤ n ∧ n ≤ 9223372036854775807) (w : World) :
    Calls Tryz.prog 122 #[.int .i64 n] w fun e w' => e = .returned (.int .u64 (n.natAbs : Nat)) ∧ w' = w := by
  by_cases h : n < 0
  · have E0 := Lib.hid (show -(n + 1) + 1 = (n.natAbs : Int) by omega)
    have i1 : 0 ≤ -(n + 1) := by omega
    have i2 : -(n + 1) ≤ 9223372036854775807 := by omega
    go_enter Tryz.func122, Tryz.ntmps122
    go_wp2
    go_ret
    exact ⟨by rw [← E0.out]; rfl, rfl⟩
  · have E0 := Lib.hid (show (n.natAbs : Int) = n by omega)
    go_enter Tryz.func122, Tryz.ntmps122
    go_wp2
    go_ret
    exact ⟨by rw [E0.out]; rfl, rfl⟩

theorem digs64 {n : Nat} (h : n < 18446744073709551616) : (digs n).length ≤ 2 := (digs_len n 2).2 (by simpa using h)
theorem com64 {m n p : Nat} (h : ComOK m n p) (hn : n < 18446744073709551616) : p = Nat.gcd m n := by
  rcases h with h | ⟨h1, _, h2⟩
  · exact h
  · omega

set_option maxRecDepth 100000 in
set_option maxHeartbeats 2000000 in
theorem refright_any (n d : Int) (hn : In64 n) (hd : In64 d) (w : World) :
    Calls Tryz.prog 78 #[.agg #[.int .i64 n, .int .i64 d]] w fun e w' => e = .returned (.bool (rightB n d)) ∧ Below w.heap.size w w' := by
  obtain ⟨ta, hsz, hbw⟩ := box1 w #[.int .i64 n, .int .i64 d] 23
  have TA := Lib.hid ta
  have HB := Lib.hid hbw
  clear ta hsz hbw
  by_cases h1 : d < 1
  · have HR : Hid (rightB n d = false) := Lib.hid (by unfold rightB; rw [decide_eq_false (by omega), Bool.false_and])
    rw [HR.out]
    go_enter Tryz.func78, Tryz.ntmps78
    go_wp2_with fail
    go_ret
    exact ⟨rfl, HB.out⟩
  · unfold In64 at hn hd
    have s1 := refsize_any n hn
    have s2 := refsize_any d hd
    have hnl : n.natAbs < 18446744073709551616 := by omega
    have hdl : d.natAbs < 18446744073709551616 := by omega
    have HR : Hid (rightB n d = decide (Nat.gcd n.natAbs d.natAbs = 1)) := Lib.hid (by
      unfold rightB
      rw [decide_eq_true (show 1 ≤ d by omega), Bool.true_and, Nat.gcd_comm, Bool.eq_iff_iff, beq_iff_eq, decide_eq_true_eq])
    have hg0 : 0 < Nat.gcd n.natAbs d.natAbs := Nat.gcd_pos_of_pos_right _ (by omega)
    have hgl : Nat.gcd n.natAbs d.natAbs < 18446744073709551616 := Nat.lt_of_le_of_lt (Nat.gcd_le_right _ (by omega)) hdl
    obtain ⟨b, hb⟩ : ∃ b, b = rightB n d := ⟨_, rfl⟩
    rw [← hb]
    have HBB := Lib.hid hb
    clear hb
    generalize n.natAbs = N at *
    generalize d.natAbs = D at *
    have HGB := Lib.hid (And.intro hg0 hgl)
    have HNL := Lib.hid (And.intro hnl hdl)
    clear hg0 hgl
    go_enter Tryz.func78, Tryz.ntmps78
    go_wp2_with fail
    generalize w.alloc (.cells #[.int .i64 n, .int .i64 d] 23) = W at *
    obtain ⟨f0, f1, f2, f3⟩ := TA.out.two
    refine wp_region_held_drew (S := (fun (w' : World) => Below W.heap.size W w' ∧ w'.cell? ⟨w.heap.size, 0, none⟩ = some (.int .i64 n) ∧ w'.cell? ⟨w.heap.size, 1, none⟩ = some (.int .i64 d))) (by kernel_rfl) ⟨(Below.refl _ _).drew, f0, f1⟩ (fun hHeld => ?_)
    refine held_take 0 (v := ?_) rfl (by kernel_rfl) (by kernel_rfl) (by kernel_rfl) (fun _ _ _ h => h) (by assumption) ?_ ?_
    rotate_left
    · first | (refine Or.inr ⟨?_, ?_⟩ <;> rfl) | (refine Or.inl ⟨by rfl, ?_⟩; intro w hSw; (try dsimp only at hSw); first | (go_simp; done) | (go_simp; with_reducible rfl))
    try simp only [Act.put, List.setIfInBounds_toArray, List.set_cons_zero, List.set_cons_succ]
    refine held_take 1 (v := ?_) rfl (by kernel_rfl) (by kernel_rfl) (by kernel_rfl) (fun _ _ _ h => h) (by assumption) ?_ ?_
    rotate_left
    · first | (refine Or.inr ⟨?_, ?_⟩ <;> rfl) | (refine Or.inl ⟨by rfl, ?_⟩; intro w hSw; (try dsimp only at hSw); first | (go_simp; done) | (go_simp; with_reducible rfl))
    try simp only [Act.put, List.setIfInBounds_toArray, List.set_cons_zero, List.set_cons_succ]
    refine held_take 4 (v := ?_) rfl (by kernel_rfl) (by kernel_rfl) (by kernel_rfl) (fun _ _ _ h => h) (by assumption) ?_ ?_
    rotate_left
    · first | (refine Or.inr ⟨?_, ?_⟩ <;> rfl) | (refine Or.inl ⟨by rfl, ?_⟩; intro w hSw; (try dsimp only at hSw); first | (go_simp; done) | (go_simp; with_reducible rfl))
    try simp only [Act.put, List.setIfInBounds_toArray, List.set_cons_zero, List.set_cons_succ]
    refine held_take 5 (v := ?_) rfl (by kernel_rfl) (by kernel_rfl) (by kernel_rfl) (fun _ _ _ h => h) (by assumption) ?_ ?_
    rotate_left
    · first | (refine Or.inr ⟨?_, ?_⟩ <;> rfl) | (refine Or.inl ⟨by rfl, ?_⟩; intro w hSw; (try dsimp only at hSw); first | (go_simp; done) | (go_simp; with_reducible rfl))
    try simp only [Act.put, List.setIfInBounds_toArray, List.set_cons_zero, List.set_cons_succ]
    refine held_call 2 rfl (by kernel_rfl) (fun K hK => ?_)
    go_simp
    with_reducible refine (s1 _).mono ?_
    rintro e w1 ⟨rfl, rfl⟩
    refine hK.out _ _ ?_ (fun hHeld => ?_)
    · first | exact hHeld | exact ⟨bstep hHeld.1 hbk (Nat.le_refl _), cell_keep' hHeld.2.1 hbk, cell_keep' hHeld.2.2 hbk⟩
    clear hK K
    try simp only [Act.put, List.setIfInBounds_toArray, List.set_cons_zero, List.set_cons_succ]
    refine held_call 3 rfl (by kernel_rfl) (fun K hK => ?_)
    go_simp
    with_reducible refine (from_any N hnl _).mono ?_
    rintro e w2 ⟨v1, rfl, ⟨a1, c1, rfl, hs1⟩, _, hbk⟩
    have hbA := hbk
    refine hK.out _ _ ?_ (fun hHeld => ?_)
    · first | exact hHeld | exact ⟨bstep hHeld.1 hbk (Nat.le_refl _), cell_keep' hHeld.2.1 hbk, cell_keep' hHeld.2.2 hbk⟩
    clear hK K
    try simp only [Act.put, List.setIfInBounds_toArray, List.set_cons_zero, List.set_cons_succ]
    refine held_call 6 rfl (by kernel_rfl) (fun K hK => ?_)
    go_simp
    with_reducible refine (s2 _).mono ?_
    rintro e w1 ⟨rfl, rfl⟩
    refine hK.out _ _ ?_ (fun hHeld => ?_)
    · first | exact hHeld | exact ⟨bstep hHeld.1 hbk (Nat.le_refl _), cell_keep' hHeld.2.1 hbk, cell_keep' hHeld.2.2 hbk⟩
    clear hK K
    try simp only [Act.put, List.setIfInBounds_toArray, List.set_cons_zero, List.set_cons_succ]
    refine held_call 7 rfl (by kernel_rfl) (fun K hK => ?_)
    go_simp
    with_reducible refine (from_any D hdl _).mono ?_
    rintro e w3 ⟨v2, rfl, ⟨a2, c2, rfl, hs2⟩, _, hbk⟩
    have hbB := hbk
    refine hK.out _ _ ?_ (fun hHeld => ?_)
    · first | exact hHeld | exact ⟨bstep hHeld.1 hbk (Nat.le_refl _), cell_keep' hHeld.2.1 hbk, cell_keep' hHeld.2.2 hbk⟩
    clear hK K
    try simp only [Act.put, List.setIfInBounds_toArray, List.set_cons_zero, List.set_cons_succ]
    refine held_call 8 rfl (by kernel_rfl) (fun K hK => ?_)
    go_simp
    with_reducible refine (common_any N D a1 a2 c1 c2 (by have := digs64 hnl; omega) (by have := digs64 hdl; omega) _ (hs1.keep hbB (Nat.le_refl _)) hs2).mono ?_
    rintro e w4 ⟨v3, p, rfl, ⟨a3, c3, rfl, hs3⟩, hcom, hlp, hbk⟩
    refine hK.out _ _ ?_ (fun hHeld => ?_)
    · first | exact hHeld | exact ⟨bstep hHeld.1 hbk (Nat.le_refl _), cell_keep' hHeld.2.1 hbk, cell_keep' hHeld.2.2 hbk⟩
    clear hK K
    try simp only [Act.put, List.setIfInBounds_toArray, List.set_cons_zero, List.set_cons_succ]
    refine held_take 9 (v := ?_) rfl (by kernel_rfl) (by kernel_rfl) (by kernel_rfl) (fun _ _ _ h => h) (by assumption) ?_ ?_
    rotate_left
    · first | (refine Or.inr ⟨?_, ?_⟩ <;> rfl) | (refine Or.inl ⟨by rfl, ?_⟩; intro w hSw; (try dsimp only at hSw); first | (go_simp; done) | (go_simp; with_reducible rfl))
    try simp only [Act.put, List.setIfInBounds_toArray, List.set_cons_zero, List.set_cons_succ]
    refine wpAnyH_done (by kernel_rfl) ?_ _
    have HB3 := Lib.hid (HB.out.trans (hHeld.1.mono HB.out.size))
    have hpe := com64 hcom HNL.out.2
    rw [← hpe] at HGB
    have cw := word_any p a3 c3 _ hs3
    rw [Nat.mod_eq_of_lt HGB.out.2, decide_eq_true HGB.out.2] at cw
    have eb : ((p : Int) == 1) = b := by
      rw [HBB.out, HR.out, Bool.eq_iff_iff, beq_iff_eq, decide_eq_true_eq, ← hpe]; omega
    clear hcom hpe
    go_wp2_with fail
    with_reducible refine cw.mono ?_
    rintro e w5 ⟨rfl, rfl⟩
    clear cw
    go_wp2_with fail
    go_ret
    exact ⟨rfl, HB3.out⟩

set_option maxRecDepth 100000 in
set_option maxHeartbeats 2000000 in
theorem refnew_any (n d : Int) (hn : In64 n) (hd : In64 d) (w : World) :
    Calls Tryz.prog 77 #[.int .i64 n, .int .i64 d] w fun e w' => e = .returned (if d = 0 then .tuple #[.agg #[.int .i64 0, .int .i64 0], .int .i64 10] else refV (frac (decide (n < 0) != decide (d < 0)) n.natAbs d.natAbs)) ∧ Below w.heap.size w w' := by
  by_cases h0 : d = 0
  · subst h0
    rw [if_pos rfl]
    have HB0 := Lib.hid (Below.refl w.heap.size w)
    go_enter Tryz.func77, Tryz.ntmps77
    go_wp2_with fail
    exact bodyPost_ret (v := .tuple #[.agg #[.int .i64 0, .int .i64 0], .int .i64 10]) (by simp [results, Tryz.results77, go_sem]) rfl ⟨rfl, by first | exact HB0.out | exact HB0.out.alloc (Nat.le_refl _) _ | exact (HB0.out.alloc (Nat.le_refl _) _).alloc (by simp) _⟩
  · rw [if_neg h0]
    have hz : (d == 0) = false := by rw [beq_eq_false_iff_ne]; exact h0
    unfold In64 at hn hd
    have s1 := refsize_any n hn
    have s2 := refsize_any d hd
    have hnl : n.natAbs < 18446744073709551616 := by omega
    have hdl : d.natAbs < 18446744073709551616 := by omega
    have hD0 : 0 < d.natAbs := by omega
    obtain ⟨ta, hsz, hbw⟩ := box1 w #[.int .i64 0, .int .i64 0] 23
    have TR := Lib.hid ta
    have HBA := Lib.hid hbw
    clear ta hsz hbw
    obtain ⟨sg, hsg⟩ : ∃ sg, sg = (decide (n < 0) != decide (d < 0)) := ⟨_, rfl⟩
    rw [← hsg]
    obtain ⟨F, hF⟩ : ∃ F, F = frac sg n.natAbs d.natAbs := ⟨_, rfl⟩
    rw [← hF]
    have HF := Lib.hid hF
    clear hF
    generalize n.natAbs = N at *
    generalize d.natAbs = D at *
    have hsg2 : (!decide (n < 0) == decide (d < 0)) = sg := by rw [hsg]; cases decide (n < 0) <;> cases decide (d < 0) <;> rfl
    have HSG := Lib.hid hsg2
    clear hsg hsg2
    have hbz := Nat.le_of_eq (Eq.refl w.heap.size)
    go_enter Tryz.func77, Tryz.ntmps77
    go_wp2_with fail
    with_reducible refine (s1 _).mono ?_
    rintro e w1 ⟨rfl, rfl⟩
    go_wp2_with fail
    with_reducible refine (from_any N hnl _).mono ?_
    rintro e w2 ⟨v1, rfl, ⟨a1, c1, rfl, hs1⟩, _, hbA⟩
    go_wp2_with fail
    with_reducible refine (s2 _).mono ?_
    rintro e w1 ⟨rfl, rfl⟩
    go_wp2_with fail
    with_reducible refine (from_any D hdl _).mono ?_
    rintro e w3 ⟨v2, rfl, ⟨a2, c2, rfl, hs2⟩, _, hbB⟩
    go_wp2_with fail
    rw [HSG.out]
    have HBW := Lib.hid (HBA.out.trans (((hbA.mono HBA.out.size).trans (hbB.mono (Nat.le_trans HBA.out.size hbA.size)))))
    have hlN : (digs N).length ≤ 100000 := by have := digs64 hnl; omega
    have hlD : (digs D).length ≤ 100000 := by have := digs64 hdl; omega
    have cl := lowest_any sg N D hD0 hlN hlD a1 a2 c1 c2 _ (hs1.keep hbB (Nat.le_refl _)) hs2
    rw [← HF.out] at cl
    clear HF
    replace TR := Lib.hid ((TR.out.keep hbA (Nat.le_refl _)).keep hbB (Nat.le_refl _))
    clear hs1 hs2 hbA hbB hlN hlD
    with_reducible refine cl.mono ?_
    rintro e w4 ⟨rfl, hbC⟩
    have HBC := Lib.hid (HBW.out.trans (hbC.mono HBW.out.size))
    obtain ⟨r0, r1, r2, r3⟩ := (TR.out.keep hbC (Nat.le_refl _)).two
    clear cl hbC TR
    rcases F with _ | ⟨x, y⟩
    · unfold refV
      go_wp2_with fail
      exact bodyPost_ret (v := .tuple #[.agg #[.int .i64 0, .int .i64 0], .int .i64 9]) (by simp [results, Tryz.results77, go_sem, r0, r1]) rfl ⟨rfl, by first | exact HBC.out | exact (HBC.out.setCell (by simp) _).setCell (by simp) _⟩
    · unfold refV
      go_wp2_with fail
      exact bodyPost_ret (v := .tuple #[.agg #[.int .i64 x, .int .i64 y], .int .i64 0]) (by simp [results, Tryz.results77, go_sem, r0, r1]) rfl ⟨rfl, by first | exact HBC.out | exact (HBC.out.setCell (by simp) _).setCell (by simp) _⟩
end Go.Proofs.YtajebceanonalaaGreatDoor
