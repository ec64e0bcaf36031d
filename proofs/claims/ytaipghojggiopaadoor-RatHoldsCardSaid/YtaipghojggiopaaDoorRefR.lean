/-
  The reference's Round: contracts.
-/
import Derived.Test.YtaipghojggiopaaDoorRefC
namespace Go.Proofs.YtaipghojggiopaaDoor
set_option linter.unusedVariables false
open Go.RowKit
theorem ret_two {a b : Int} (h : a = b) : Ending.returned (.tuple #[.int .i64 a, .int .i64 0]) = .returned (.tuple #[.int .i64 b, .int .i64 0]) := by rw [h]

set_option maxRecDepth 100000 in
set_option maxHeartbeats 4000000 in
theorem refround_any (n d : Int) (h1 : In64 n) (h2 : In64 d) (w : World) :
    Calls Tryd.prog 15 #[.agg #[.int .i64 n, .int .i64 d]] w fun e w' =>
      e = .returned (if rightB n d then .tuple #[.int .i64 (roundI n d), .int .i64 0] else .tuple #[.int .i64 0, .int .i64 1]) ∧ Below w.heap.size w w' := by
  have ca := refright_any n d h1 h2
  have hbx := box1 w #[.int .i64 n, .int .i64 d] 23
  obtain ⟨ta, hsz, hbw⟩ := hbx
  have TA := Lib.hid ta
  have HBW := Lib.hid hbw
  clear ta hsz hbw
  cases hr : rightB n d
  · rw [hr] at ca
    go_enter Tryd.func15, Tryd.ntmps15
    go_wp2_with fail
    with_reducible refine (ca _).mono ?_
    rintro e w1 ⟨rfl, hb1⟩
    have HW1 := Lib.hid (bstep HBW.out hb1 (Nat.le_refl _))
    clear hb1 ca
    go_wp2_with fail
    go_ret2
    exact ⟨rfl, HW1.out⟩
  · rw [hr] at ca
    obtain ⟨a1, a2, a3, a4, a5⟩ := (rightB_iff n d h1 h2).1 hr
    have ofa := of_any n d h1 h2
    have k1 : n.natAbs < 18446744073709551616 := by omega
    have k2 : d.natAbs < 18446744073709551616 := by omega
    have HP := Lib.hid (show 0 < 2 * d.natAbs by omega)
    have hle1 := round_le n.natAbs d.natAbs 9223372036854775808 (by omega) (by omega)
    have hle2 : 0 ≤ n → roundN n.natAbs d.natAbs ≤ 9223372036854775807 := fun h => round_le n.natAbs d.natAbs _ (by omega) (by omega)
    obtain ⟨R, hR⟩ : ∃ R, R = roundI n d := ⟨_, rfl⟩
    rw [if_pos rfl, ← hR]
    unfold roundI roundN at *
    generalize n.natAbs = A at *
    generalize d.natAbs = D at *
    have L1 : (digs (2 * A)).length ≤ 1000000 := Nat.le_trans ((digs_len _ 3).2 (by rw [show (4294967296 : Nat) ^ 3 = 79228162514264337593543950336 by decide +kernel]; omega)) (by decide)
    have L2 : (digs D).length ≤ 1000000 := Nat.le_trans ((digs_len _ 3).2 (by rw [show (4294967296 : Nat) ^ 3 = 79228162514264337593543950336 by decide +kernel]; omega)) (by decide)
    have L3 : (digs (2 * A + D)).length ≤ 100000 := Nat.le_trans ((digs_len _ 3).2 (by rw [show (4294967296 : Nat) ^ 3 = 79228162514264337593543950336 by decide +kernel]; omega)) (by decide)
    have L4 : (digs (2 * D)).length ≤ 100000 := Nat.le_trans ((digs_len _ 3).2 (by rw [show (4294967296 : Nat) ^ 3 = 79228162514264337593543950336 by decide +kernel]; omega)) (by decide)
    have LA : (digs A).length ≤ 100000 := by have := digs64 k1; omega
    have LD : (digs D).length ≤ 100000 := by have := digs64 k2; omega
    have LT : (digs 2).length ≤ 100000 := by have := digs64 (n := 2) (by decide); omega
    clear a1 a2 a3 a4 a5 h1 h2 k1 k2 hr
    have HR := Lib.hid hR
    have HLE := Lib.hid (And.intro hle1 hle2)
    clear hR hle1 hle2
    go_enter Tryd.func15, Tryd.ntmps15
    go_wp2_with fail
    with_reducible refine (ca _).mono ?_
    rintro e w1 ⟨rfl, hb1⟩
    replace HBW := Lib.hid (bstep HBW.out hb1 (Nat.le_refl _))
    obtain ⟨x0, x1, _, _⟩ := (TA.out.keep hb1 (Nat.le_refl _)).two
    clear ca hb1
    go_wp2_with fail
    with_reducible refine (ofa _).mono ?_
    rintro e w3 ⟨_, rfl, ⟨_, _, rfl, ⟨aa, cA, rfl, hsa⟩, ⟨ad, cD, rfl, hsd⟩⟩, hb1⟩
    replace HBW := Lib.hid (bstep HBW.out hb1 (Nat.le_refl _))
    clear ofa hb1 x0 x1
    obtain ⟨t4, hsz4, hb4⟩ := box1 w3 #[.bool (decide (n < 0)), .slice aa (digs A).length cA, .slice ad (digs D).length cD] 64
    replace HBW := Lib.hid (bstep HBW.out hb4 (Nat.le_refl _))
    have HA := Lib.hid (hsa.keep hb4 (Nat.le_refl _))
    have HD := Lib.hid (hsd.keep hb4 (Nat.le_refl _))
    have T4 := Lib.hid t4
    clear hsz4 hb4 hsa hsd t4
    go_wp2_with fail
    have cf : ∀ w, Calls Tryd.prog 33 #[.int .u64 2] w (RetNat w 2) := fun w => from_any 2 (by decide) w
    with_reducible refine (cf _).mono ?_
    clear cf
    rintro e W ⟨_, rfl, ⟨a2, c2, rfl, hs2⟩, _, hb1⟩
    replace HBW := Lib.hid (bstep HBW.out hb1 (Nat.le_refl _))
    replace HA := Lib.hid (HA.out.keep hb1 (Nat.le_refl _))
    replace HD := Lib.hid (HD.out.keep hb1 (Nat.le_refl _))
    replace T4 := Lib.hid (T4.out.keep hb1 (Nat.le_refl _))
    have H2 := Lib.hid hs2
    clear hb1 hs2
    go_wp2_with fail
    generalize w3.heap.size = g4 at *
    have c1 := fun w' (h : Below W.heap.size W w') => times_any 2 A a2 aa c2 cA LT LA w' (H2.out.keep h (Nat.le_refl _)) (HA.out.keep h (Nat.le_refl _))
    have c2 := fun w' (h : Below W.heap.size W w') => times_any 2 D a2 ad c2 cD LT LD w' (H2.out.keep h (Nat.le_refl _)) (HD.out.keep h (Nat.le_refl _))
    have cP := fun w' a5 c5 (h5 : SlD w' a5 c5 (digs (2 * A))) (h : Below W.heap.size W w') => plus_any (2 * A) D a5 ad c5 cD L1 L2 w' h5 (HD.out.keep h (Nat.le_refl _))
    obtain ⟨x0, x1, x2, _, _, _⟩ := T4.out.three
    generalize (digs 2).length = l2 at *
    generalize (digs A).length = la at *
    generalize hld : (digs D).length = ld at *
    have HLD := Lib.hid hld
    clear hld
    refine wp_region_held_drew (S := (fun (w' : World) => w'.cell? ⟨g4, 0, none⟩ = some (.bool (decide (n < 0))) ∧ w'.cell? ⟨g4, 1, none⟩ = some (.slice aa la cA) ∧ w'.cell? ⟨g4, 2, none⟩ = some (.slice ad ld cD) ∧ Below W.heap.size W w')) (by kernel_rfl) ⟨x0, x1, x2, (Below.refl _ _).drew⟩ (fun hHeld => ?_)
    refine held_take 0 (v := ?_) rfl (by kernel_rfl) (by kernel_rfl) (by kernel_rfl) (fun _ _ _ h => h) (by assumption) ?_ ?_
    rotate_left
    · first | (refine Or.inr ⟨?_, ?_⟩ <;> rfl) | (refine Or.inl ⟨by rfl, ?_⟩; intro w hSw; (try dsimp only at hSw); first | (go_simp; done) | (go_simp; with_reducible rfl))
    try simp only [Act.put, List.setIfInBounds_toArray, List.set_cons_zero, List.set_cons_succ]
    refine held_take 1 (v := ?_) rfl (by kernel_rfl) (by kernel_rfl) (by kernel_rfl) (fun _ _ _ h => h) (by assumption) ?_ ?_
    rotate_left
    · first | (refine Or.inr ⟨?_, ?_⟩ <;> rfl) | (refine Or.inl ⟨by rfl, ?_⟩; intro w hSw; (try dsimp only at hSw); first | (go_simp; done) | (go_simp; with_reducible rfl))
    try simp only [Act.put, List.setIfInBounds_toArray, List.set_cons_zero, List.set_cons_succ]
    refine held_take 2 (v := ?_) rfl (by kernel_rfl) (by kernel_rfl) (by kernel_rfl) (fun _ _ _ h => h) (by assumption) ?_ ?_
    rotate_left
    · first | (refine Or.inr ⟨?_, ?_⟩ <;> rfl) | (refine Or.inl ⟨by rfl, ?_⟩; intro w hSw; (try dsimp only at hSw); first | (go_simp; done) | (go_simp; with_reducible rfl))
    try simp only [Act.put, List.setIfInBounds_toArray, List.set_cons_zero, List.set_cons_succ]
    refine held_take 4 (v := ?_) rfl (by kernel_rfl) (by kernel_rfl) (by kernel_rfl) (fun _ _ _ h => h) (by assumption) ?_ ?_
    rotate_left
    · first | (refine Or.inr ⟨?_, ?_⟩ <;> rfl) | (refine Or.inl ⟨by rfl, ?_⟩; intro w hSw; (try dsimp only at hSw); first | (go_simp; done) | (go_simp; with_reducible rfl))
    try simp only [Act.put, List.setIfInBounds_toArray, List.set_cons_zero, List.set_cons_succ]
    refine held_take 5 (v := ?_) rfl (by kernel_rfl) (by kernel_rfl) (by kernel_rfl) (fun _ _ _ h => h) (by assumption) ?_ ?_
    rotate_left
    · first | (refine Or.inr ⟨?_, ?_⟩ <;> rfl) | (refine Or.inl ⟨by rfl, ?_⟩; intro w hSw; (try dsimp only at hSw); first | (go_simp; done) | (go_simp; with_reducible rfl))
    try simp only [Act.put, List.setIfInBounds_toArray, List.set_cons_zero, List.set_cons_succ]
    refine held_take 7 (v := ?_) rfl (by kernel_rfl) (by kernel_rfl) (by kernel_rfl) (fun _ _ _ h => h) (by assumption) ?_ ?_
    rotate_left
    · first | (refine Or.inr ⟨?_, ?_⟩ <;> rfl) | (refine Or.inl ⟨by rfl, ?_⟩; intro w hSw; (try dsimp only at hSw); first | (go_simp; done) | (go_simp; with_reducible rfl))
    try simp only [Act.put, List.setIfInBounds_toArray, List.set_cons_zero, List.set_cons_succ]
    refine held_take 8 (v := ?_) rfl (by kernel_rfl) (by kernel_rfl) (by kernel_rfl) (fun _ _ _ h => h) (by assumption) ?_ ?_
    rotate_left
    · first | (refine Or.inr ⟨?_, ?_⟩ <;> rfl) | (refine Or.inl ⟨by rfl, ?_⟩; intro w hSw; (try dsimp only at hSw); first | (go_simp; done) | (go_simp; with_reducible rfl))
    try simp only [Act.put, List.setIfInBounds_toArray, List.set_cons_zero, List.set_cons_succ]
    refine held_take 9 (v := ?_) rfl (by kernel_rfl) (by kernel_rfl) (by kernel_rfl) (fun _ _ _ h => h) (by assumption) ?_ ?_
    rotate_left
    · first | (refine Or.inr ⟨?_, ?_⟩ <;> rfl) | (refine Or.inl ⟨by rfl, ?_⟩; intro w hSw; (try dsimp only at hSw); first | (go_simp; done) | (go_simp; with_reducible rfl))
    try simp only [Act.put, List.setIfInBounds_toArray, List.set_cons_zero, List.set_cons_succ]
    refine held_call 3 rfl (by kernel_rfl) (fun K hK => ?_)
    go_simp
    with_reducible refine (c1 _ hHeld.2.2.2).mono ?_
    rintro e w5 ⟨_, rfl, ⟨a5, c5, rfl, hs5⟩, _, hbk⟩
    refine hK.out _ _ ?_ (fun hHeld => ?_)
    · first | exact hHeld | exact ⟨cell_keep' hHeld.1 hbk, cell_keep' hHeld.2.1 hbk, cell_keep' hHeld.2.2.1 hbk, bstep hHeld.2.2.2 hbk (Nat.le_refl _)⟩
    clear hK K
    try simp only [Act.put, List.setIfInBounds_toArray, List.set_cons_zero, List.set_cons_succ]
    refine held_call 6 rfl (by kernel_rfl) (fun K hK => ?_)
    go_simp
    with_reducible refine (cP _ _ _ hs5 hHeld.2.2.2).mono ?_
    rintro e w6 ⟨_, rfl, ⟨a6, c6, rfl, hs6⟩, _, hbk⟩
    refine hK.out _ _ ?_ (fun hHeld => ?_)
    · first | exact hHeld | exact ⟨cell_keep' hHeld.1 hbk, cell_keep' hHeld.2.1 hbk, cell_keep' hHeld.2.2.1 hbk, bstep hHeld.2.2.2 hbk (Nat.le_refl _)⟩
    clear hK K
    try simp only [Act.put, List.setIfInBounds_toArray, List.set_cons_zero, List.set_cons_succ]
    refine held_call 10 rfl (by kernel_rfl) (fun K hK => ?_)
    go_simp
    with_reducible refine (c2 _ hHeld.2.2.2).mono ?_
    rintro e w7 ⟨_, rfl, ⟨a7, c7, rfl, hs7⟩, _, hbk⟩
    replace hs6 := hs6.keep hbk (Nat.le_refl _)
    refine hK.out _ _ ?_ (fun hHeld => ?_)
    · first | exact hHeld | exact ⟨cell_keep' hHeld.1 hbk, cell_keep' hHeld.2.1 hbk, cell_keep' hHeld.2.2.1 hbk, bstep hHeld.2.2.2 hbk (Nat.le_refl _)⟩
    clear hK K
    try simp only [Act.put, List.setIfInBounds_toArray, List.set_cons_zero, List.set_cons_succ]
    refine held_call 11 rfl (by kernel_rfl) (fun K hK => ?_)
    go_simp
    with_reducible refine (divided_any (2 * A + D) (2 * D) HP.out _ _ _ _ L3 L4 _ hs6 hs7).mono ?_
    rintro e w8 ⟨_, _, rfl, ⟨a8, c8, rfl, hs8⟩, ⟨a9, c9, rfl, hs9⟩, hbk⟩
    refine hK.out _ _ ?_ (fun hHeld => ?_)
    · first | exact hHeld | exact ⟨cell_keep' hHeld.1 hbk, cell_keep' hHeld.2.1 hbk, cell_keep' hHeld.2.2.1 hbk, bstep hHeld.2.2.2 hbk (Nat.le_refl _)⟩
    clear hK K
    try simp only [Act.put, List.setIfInBounds_toArray, List.set_cons_zero, List.set_cons_succ]
    refine held_take 12 (v := ?_) rfl (by kernel_rfl) (by kernel_rfl) (by kernel_rfl) (fun _ _ _ h => h) (by assumption) ?_ ?_
    rotate_left
    · first | (refine Or.inr ⟨?_, ?_⟩ <;> rfl) | (refine Or.inl ⟨by rfl, ?_⟩; intro w hSw; (try dsimp only at hSw); first | (go_simp; done) | (go_simp; with_reducible rfl))
    try simp only [Act.put, List.setIfInBounds_toArray, List.set_cons_zero, List.set_cons_succ]
    refine held_take 13 (v := ?_) rfl (by kernel_rfl) (by kernel_rfl) (by kernel_rfl) (fun _ _ _ h => h) (by assumption) ?_ ?_
    rotate_left
    · first | (refine Or.inr ⟨?_, ?_⟩ <;> rfl) | (refine Or.inl ⟨by rfl, ?_⟩; intro w hSw; (try dsimp only at hSw); first | (go_simp; done) | (go_simp; with_reducible rfl))
    try simp only [Act.put, List.setIfInBounds_toArray, List.set_cons_zero, List.set_cons_succ]
    refine held_take 14 (v := ?_) rfl (by kernel_rfl) (by kernel_rfl) (by kernel_rfl) (fun _ _ _ h => h) (by assumption) ?_ ?_
    rotate_left
    · first | (refine Or.inr ⟨?_, ?_⟩ <;> rfl) | (refine Or.inl ⟨by rfl, ?_⟩; intro w hSw; (try dsimp only at hSw); first | (go_simp; done) | (go_simp; with_reducible rfl))
    try simp only [Act.put, List.setIfInBounds_toArray, List.set_cons_zero, List.set_cons_succ]
    refine held_take 15 (v := ?_) rfl (by kernel_rfl) (by kernel_rfl) (by kernel_rfl) (fun _ _ _ h => h) (by assumption) ?_ ?_
    rotate_left
    · first | (refine Or.inr ⟨?_, ?_⟩ <;> rfl) | (refine Or.inl ⟨by rfl, ?_⟩; intro w hSw; (try dsimp only at hSw); first | (go_simp; done) | (go_simp; with_reducible rfl))
    try simp only [Act.put, List.setIfInBounds_toArray, List.set_cons_zero, List.set_cons_succ]
    refine held_take 16 (v := ?_) rfl (by kernel_rfl) (by kernel_rfl) (by kernel_rfl) (fun _ _ _ h => h) (by assumption) ?_ ?_
    rotate_left
    · first | (refine Or.inr ⟨?_, ?_⟩ <;> rfl) | (refine Or.inl ⟨by rfl, ?_⟩; intro w hSw; (try dsimp only at hSw); first | (go_simp; done) | (go_simp; with_reducible rfl))
    try simp only [Act.put, List.setIfInBounds_toArray, List.set_cons_zero, List.set_cons_succ]
    refine wpAnyH_done (by kernel_rfl) ?_ _

    have HB6 := Lib.hid (bstep HBW.out hHeld.2.2.2 (Nat.le_refl _))
    have x0' := hHeld.1
    have cw := word_any ((2 * A + D) / (2 * D)) _ _ _ hs8
    rw [Nat.mod_eq_of_lt (Nat.lt_of_le_of_lt HLE.out.1 (by decide))] at cw
    clear hHeld x0 x1 x2 c1 c2 cP hs5 hs6 hs7 hs8 hs9 L1 L2 L3 L4 LA LD LT HA HD H2 HP
    generalize hq : (2 * A + D) / (2 * D) = q at *
    have HNB := Lib.hid (neg_back q HLE.out.1)
    have hq1 : (q : Int) ≤ 9223372036854775808 := by have := HLE.out.1; omega
    generalize (digs q).length = lq at *
    go_wp2_with fail
    with_reducible refine (cw).mono ?_
    rintro e w9 ⟨rfl, rfl⟩
    clear cw
    by_cases s1 : n < 0
    · have d1 : decide (n < 0) = true := decide_eq_true s1
      rw [d1] at x0'
      have HR2 := Lib.hid (show R = -(q : Int) by rw [HR.out, d1]; rfl)
      clear s1 d1 HR HLE
      go_wp2_with fail
      go_ret2
      exact ⟨by rw [HR2.out]; exact ret_two HNB.out, HB6.out⟩
    · have d1 : decide (n < 0) = false := decide_eq_false s1
      have hq2 : (q : Int) ≤ 9223372036854775807 := by have := HLE.out.2 (by omega); omega
      rw [d1] at x0'
      have HR2 := Lib.hid (show R = (q : Int) by rw [HR.out, d1]; rfl)
      clear s1 d1 HR HLE
      go_wp2_with fail
      go_ret2
      exact ⟨by rw [HR2.out]; rfl, HB6.out⟩
end Go.Proofs.YtaipghojggiopaaDoor
