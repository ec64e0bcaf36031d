/-
  The reference's Mul, Div: contracts.
-/
import Derived.Test.YtaipghojggiopaaDoorRefA
import Derived.Test.YtaipghojggiopaaDoorRatK
namespace Go.Proofs.YtaipghojggiopaaDoor
set_option linter.unusedVariables false
open Go.RowKit

theorem frac_of_sgn {neg : Bool} {N D : Nat} {X : Int} (h : sgn neg N = X) (hD : 0 < D) : frac neg N D = fracI X D := by
  unfold fracI
  exact frac_congr _ _ _ _ _ _ hD hD (by rw [h, sgn_self])
theorem sgn_div2b (na nb db : Int) (h : 0 < db) : sgn (decide (na < 0) != decide (nb < 0)) (na.natAbs * db.natAbs) = if nb < 0 then -(na * db) else na * db := by
  rw [sgn_div2, show ((db.natAbs : Nat) : Int) = db by omega]


set_option maxRecDepth 100000 in
set_option maxHeartbeats 2000000 in
theorem refmul_bad (na da nb db : Int) (h1 : In64 na) (h2 : In64 da) (h3 : In64 nb) (h4 : In64 db) (hb : rightB na da = false ∨ rightB nb db = false) (w : World) :
    Calls Tryd.prog 27 #[.agg #[.int .i64 na, .int .i64 da], .agg #[.int .i64 nb, .int .i64 db]] w fun e w' => e = .returned (.tuple #[.agg #[.int .i64 0, .int .i64 0], .int .i64 1]) ∧ Below w.heap.size w w' := by
  have ca := refright_any na da h1 h2
  have cb := refright_any nb db h3 h4
  have hbx := box3 w #[.int .i64 na, .int .i64 da] #[.int .i64 nb, .int .i64 db] #[.int .i64 0, .int .i64 0] 23 23 23
  obtain ⟨ta, tb, tr, hsz, hbw⟩ := hbx
  have TA := Lib.hid ta
  have TB := Lib.hid tb
  have TR := Lib.hid tr
  have HBW := Lib.hid hbw
  have HSZ := Lib.hid hsz
  clear ta tb hsz hbw
  cases ha : rightB na da
  · rw [ha] at ca
    clear cb hb
    go_enter Tryd.func27, Tryd.ntmps27
    go_wp2_with fail
    with_reducible refine (ca _).mono ?_
    rintro e w1 ⟨rfl, hb1⟩
    replace HBW := Lib.hid (bstep HBW.out hb1 (Nat.le_refl _))
    obtain ⟨r0, r1, r2, r3⟩ := (TR.out.keep hb1 (Nat.le_refl _)).two
    clear ca hb1
    go_wp2_with fail
    exact bodyPost_ret (v := .tuple #[.agg #[.int .i64 0, .int .i64 0], .int .i64 1]) (by simp [results, Tryd.results27, go_sem, r0, r1]) rfl ⟨rfl, by first | exact HBW.out | exact below_set2 HBW.out (by omega) _ _⟩
  · have hb2 : rightB nb db = false := by rcases hb with h | h; · rw [ha] at h; cases h
                                          · exact h
    rw [ha] at ca
    rw [hb2] at cb
    clear hb
    go_enter Tryd.func27, Tryd.ntmps27
    go_wp2_with fail
    with_reducible refine (ca _).mono ?_
    rintro e w1 ⟨rfl, hb1⟩
    replace HBW := Lib.hid (bstep HBW.out hb1 (Nat.le_refl _))
    replace TB := Lib.hid (TB.out.keep hb1 (Nat.le_refl _))
    obtain ⟨x0, x1, _, _⟩ := TB.out.two
    replace TR := Lib.hid (TR.out.keep hb1 (Nat.le_refl _))
    clear ca hb1
    go_wp2_with fail
    with_reducible refine (cb _).mono ?_
    rintro e w2 ⟨rfl, hb1⟩
    replace HBW := Lib.hid (bstep HBW.out hb1 (Nat.le_refl _))
    obtain ⟨r0, r1, r2, r3⟩ := (TR.out.keep hb1 (Nat.le_refl _)).two
    clear cb hb1
    go_wp2_with fail
    exact bodyPost_ret (v := .tuple #[.agg #[.int .i64 0, .int .i64 0], .int .i64 1]) (by simp [results, Tryd.results27, go_sem, r0, r1]) rfl ⟨rfl, by first | exact HBW.out | exact below_set2 HBW.out (by omega) _ _⟩

set_option maxRecDepth 100000 in
set_option maxHeartbeats 4000000 in
theorem refmul_ok (na da nb db : Int) (ha : RightP na da) (hb : RightP nb db) (w : World) :
    Calls Tryd.prog 27 #[.agg #[.int .i64 na, .int .i64 da], .agg #[.int .i64 nb, .int .i64 db]] w fun e w' => e = .returned (refV (fracI (na * nb) (da.natAbs * db.natAbs))) ∧ Below w.heap.size w w' := by
  obtain ⟨a1, a2, a3, a4, a5⟩ := ha
  obtain ⟨b1, b2, b3, b4, b5⟩ := hb
  have ra := (rightB_iff na da ⟨a3, a4⟩ ⟨by omega, by omega⟩).2 ⟨a1, a2, a3, a4, a5⟩
  have rb := (rightB_iff nb db ⟨b3, b4⟩ ⟨by omega, by omega⟩).2 ⟨b1, b2, b3, b4, b5⟩
  have ca := refright_any na da ⟨a3, a4⟩ ⟨by omega, by omega⟩
  have cb := refright_any nb db ⟨b3, b4⟩ ⟨by omega, by omega⟩
  rw [ra] at ca
  rw [rb] at cb
  have ofa := of_any na da ⟨a3, a4⟩ ⟨by omega, by omega⟩
  have ofb := of_any nb db ⟨b3, b4⟩ ⟨by omega, by omega⟩
  have k1 : na.natAbs < 18446744073709551616 := by omega
  have k2 : da.natAbs < 18446744073709551616 := by omega
  have k3 : nb.natAbs < 18446744073709551616 := by omega
  have k4 : db.natAbs < 18446744073709551616 := by omega
  have hDE : 0 < da.natAbs * db.natAbs := Nat.mul_pos (by omega) (by omega)
  have hval : frac (decide (na < 0) != decide (nb < 0)) (na.natAbs * nb.natAbs) (da.natAbs * db.natAbs) = _ := frac_of_sgn (sgn_mul2 na nb) hDE
  rw [← hval]
  clear hval
  obtain ⟨sg, hsg⟩ : ∃ sg, sg = (decide (na < 0) != decide (nb < 0)) := ⟨_, rfl⟩
  rw [← hsg]
  have HSG := Lib.hid (show (!(decide (na < 0) == decide (nb < 0))) = sg from hsg.symm)
  obtain ⟨X, Y, kk, hsh⟩ := refV_shape (frac sg (na.natAbs * nb.natAbs) (da.natAbs * db.natAbs))
  have HV := Lib.hid hsh
  have HLEN := Lib.hid (And.intro hDE (And.intro (And.intro k1 k2) (And.intro k3 k4)))
  clear hsg hsh hDE k1 k2 k3 k4
  have hbx := box3 w #[.int .i64 na, .int .i64 da] #[.int .i64 nb, .int .i64 db] #[.int .i64 0, .int .i64 0] 23 23 23
  obtain ⟨ta, tb, tr, hsz, hbw⟩ := hbx
  have TA := Lib.hid ta
  have TB := Lib.hid tb
  have TR := Lib.hid tr
  have HBW := Lib.hid hbw
  clear ta tb tr hsz hbw
  clear a1 a2 a3 a4 a5 b1 b2 b3 b4 b5 ra rb
  go_enter Tryd.func27, Tryd.ntmps27
  go_wp2_with fail
  with_reducible refine (ca _).mono ?_
  rintro e w1 ⟨rfl, hb1⟩
  replace HBW := Lib.hid (bstep HBW.out hb1 (Nat.le_refl _))
  replace TA := Lib.hid (TA.out.keep hb1 (Nat.le_refl _))
  replace TB := Lib.hid (TB.out.keep hb1 (Nat.le_refl _))
  replace TR := Lib.hid (TR.out.keep hb1 (Nat.le_refl _))
  obtain ⟨x0, x1, _, _⟩ := TB.out.two
  clear ca hb1
  go_wp2_with fail
  with_reducible refine (cb _).mono ?_
  rintro e w2 ⟨rfl, hb1⟩
  replace HBW := Lib.hid (bstep HBW.out hb1 (Nat.le_refl _))
  replace TA := Lib.hid (TA.out.keep hb1 (Nat.le_refl _))
  replace TB := Lib.hid (TB.out.keep hb1 (Nat.le_refl _))
  replace TR := Lib.hid (TR.out.keep hb1 (Nat.le_refl _))
  clear x0 x1 cb hb1
  obtain ⟨x0, x1, _, _⟩ := TA.out.two
  obtain ⟨y0, y1, _, _⟩ := TB.out.two
  go_wp2_with fail
  with_reducible refine (ofa _).mono ?_
  rintro e w3 ⟨_, rfl, ⟨_, _, rfl, ⟨aa, cA, rfl, hsa⟩, ⟨ad, cD, rfl, hsd⟩⟩, hb1⟩
  replace HBW := Lib.hid (bstep HBW.out hb1 (Nat.le_refl _))
  replace TB := Lib.hid (TB.out.keep hb1 (Nat.le_refl _))
  replace TR := Lib.hid (TR.out.keep hb1 (Nat.le_refl _))
  clear ofa hb1 x0 x1 y0 y1
  obtain ⟨t6, hsz6, hb6⟩ := box1 w3 #[.bool (decide (na < 0)), .slice aa (digs na.natAbs).length cA, .slice ad (digs da.natAbs).length cD] 64
  have T6 := Lib.hid t6
  have HG6 := Lib.hid (show w.heap.size + 1 + 1 < w3.heap.size from TR.out.lt)
  replace HBW := Lib.hid (bstep HBW.out hb6 (Nat.le_refl _))
  replace TB := Lib.hid (TB.out.keep hb6 (Nat.le_refl _))
  replace TR := Lib.hid (TR.out.keep hb6 (Nat.le_refl _))
  have HA := Lib.hid (hsa.keep hb6 (Nat.le_refl _))
  have HD := Lib.hid (hsd.keep hb6 (Nat.le_refl _))
  clear t6 hsz6 hb6 hsa hsd
  obtain ⟨y0, y1, _, _⟩ := TB.out.two
  go_wp2_with fail
  with_reducible refine (ofb _).mono ?_
  rintro e w4 ⟨_, rfl, ⟨_, _, rfl, ⟨ab, cB, rfl, hsb⟩, ⟨ae, cE, rfl, hse⟩⟩, hb1⟩
  replace HBW := Lib.hid (bstep HBW.out hb1 (Nat.le_refl _))
  replace TR := Lib.hid (TR.out.keep hb1 (Nat.le_refl _))
  replace T6 := Lib.hid (T6.out.keep hb1 (Nat.le_refl _))
  replace HA := Lib.hid (HA.out.keep hb1 (Nat.le_refl _))
  replace HD := Lib.hid (HD.out.keep hb1 (Nat.le_refl _))
  clear ofb hb1 y0 y1 TB TA
  obtain ⟨t7, hsz7, hb7⟩ := box1 w4 #[.bool (decide (nb < 0)), .slice ab (digs nb.natAbs).length cB, .slice ae (digs db.natAbs).length cE] 64
  have T7 := Lib.hid t7
  have HG7 := Lib.hid (show w.heap.size + 1 + 1 < w4.heap.size from TR.out.lt)
  replace HBW := Lib.hid (bstep HBW.out hb7 (Nat.le_refl _))
  replace TR := Lib.hid (TR.out.keep hb7 (Nat.le_refl _))
  replace T6 := Lib.hid (T6.out.keep hb7 (Nat.le_refl _))
  replace HA := Lib.hid (HA.out.keep hb7 (Nat.le_refl _))
  replace HD := Lib.hid (HD.out.keep hb7 (Nat.le_refl _))
  have HB := Lib.hid (hsb.keep hb7 (Nat.le_refl _))
  have HE := Lib.hid (hse.keep hb7 (Nat.le_refl _))
  clear t7 hsz7 hb7 hsb hse
  go_wp2_with fail
  generalize w4.alloc (.cells #[.bool (decide (nb < 0)), .slice ab (digs nb.natAbs).length cB, .slice ae (digs db.natAbs).length cE] 64) = W at *
  generalize w3.heap.size = g6 at *
  generalize w4.heap.size = g7 at *
  obtain ⟨x0, x1, x2, _, _, _⟩ := T6.out.three
  obtain ⟨y0, y1, y2, _, _, _⟩ := T7.out.three
  refine wp_region_held_drew (S := (fun (w' : World) => w'.cell? ⟨g6, 0, none⟩ = some (.bool (decide (na < 0))) ∧ w'.cell? ⟨g6, 1, none⟩ = some (.slice aa (digs na.natAbs).length cA) ∧ w'.cell? ⟨g6, 2, none⟩ = some (.slice ad (digs da.natAbs).length cD) ∧ w'.cell? ⟨g7, 0, none⟩ = some (.bool (decide (nb < 0))) ∧ w'.cell? ⟨g7, 1, none⟩ = some (.slice ab (digs nb.natAbs).length cB) ∧ w'.cell? ⟨g7, 2, none⟩ = some (.slice ae (digs db.natAbs).length cE) ∧ Blk w' g6 #[.bool (decide (na < 0)), .slice aa (digs na.natAbs).length cA, .slice ad (digs da.natAbs).length cD] ∧ Blk w' g7 #[.bool (decide (nb < 0)), .slice ab (digs nb.natAbs).length cB, .slice ae (digs db.natAbs).length cE] ∧ Below w.heap.size w w' ∧ ∃ x y, Blk w' (w.heap.size + 1 + 1) #[x, y])) (by kernel_rfl) ⟨x0, x1, x2, y0, y1, y2, T6.out.keep (Below.refl _ _).drew (Nat.le_refl _), T7.out.keep (Below.refl _ _).drew (Nat.le_refl _), HBW.out.drew, _, _, TR.out.keep (Below.refl _ _).drew (Nat.le_refl _)⟩ (fun hHeld => ?_)
  refine held_take 0 (v := ?_) rfl (by kernel_rfl) (by kernel_rfl) (by kernel_rfl) (fun _ _ _ h => h) (by assumption) ?_ ?_
  rotate_left
  · first | (refine Or.inr ⟨?_, ?_⟩ <;> rfl) | (refine Or.inl ⟨by rfl, ?_⟩; intro w hSw; (try dsimp only at hSw); first | (go_simp; done) | (go_simp; with_reducible rfl))
  try simp only [Act.put, List.setIfInBounds_toArray, List.set_cons_zero, List.set_cons_succ]
  refine held_take 1 (v := ?_) rfl (by kernel_rfl) (by kernel_rfl) (by kernel_rfl) (fun _ _ _ h => h) (by assumption) ?_ ?_
  rotate_left
  · first | (refine Or.inr ⟨?_, ?_⟩ <;> rfl) | (refine Or.inl ⟨by rfl, ?_⟩; intro w hSw; (try dsimp only at hSw); first | (go_simp; done) | (go_simp; with_reducible rfl))
  try simp only [Act.put, List.setIfInBounds_toArray, List.set_cons_zero, List.set_cons_succ]
  refine held_take 2 (v := ?_) rfl (by kernel_rfl) (by kernel_rfl) (by kernel_rfl) (fun _ _ _ h => h) (by assumption) ?_ ?_
  rotate_left
  · first | (refine Or.inr ⟨?_, ?_⟩ <;> rfl) | (refine Or.inl ⟨by rfl, ?_⟩; intro w hSw; (try dsimp only at hSw); first | (go_simp; done) | (go_simp; with_reducible rfl))
  try simp only [Act.put, List.setIfInBounds_toArray, List.set_cons_zero, List.set_cons_succ]
  refine held_take 3 (v := ?_) rfl (by kernel_rfl) (by kernel_rfl) (by kernel_rfl) (fun _ _ _ h => h) (by assumption) ?_ ?_
  rotate_left
  · first | (refine Or.inr ⟨?_, ?_⟩ <;> rfl) | (refine Or.inl ⟨by rfl, ?_⟩; intro w hSw; (try dsimp only at hSw); first | (go_simp; done) | (go_simp; with_reducible rfl))
  try simp only [Act.put, List.setIfInBounds_toArray, List.set_cons_zero, List.set_cons_succ]
  refine held_take 4 (v := ?_) rfl (by kernel_rfl) (by kernel_rfl) (by kernel_rfl) (fun _ _ _ h => h) (by assumption) ?_ ?_
  rotate_left
  · first | (refine Or.inr ⟨?_, ?_⟩ <;> rfl) | (refine Or.inl ⟨by rfl, ?_⟩; intro w hSw; (try dsimp only at hSw); first | (go_simp; done) | (go_simp; with_reducible rfl))
  try simp only [Act.put, List.setIfInBounds_toArray, List.set_cons_zero, List.set_cons_succ]
  refine held_take 5 (v := ?_) rfl (by kernel_rfl) (by kernel_rfl) (by kernel_rfl) (fun _ _ _ h => h) (by assumption) ?_ ?_
  rotate_left
  · first | (refine Or.inr ⟨?_, ?_⟩ <;> rfl) | (refine Or.inl ⟨by rfl, ?_⟩; intro w hSw; (try dsimp only at hSw); first | (go_simp; done) | (go_simp; with_reducible rfl))
  try simp only [Act.put, List.setIfInBounds_toArray, List.set_cons_zero, List.set_cons_succ]
  refine held_take 6 (v := ?_) rfl (by kernel_rfl) (by kernel_rfl) (by kernel_rfl) (fun _ _ _ h => h) (by assumption) ?_ ?_
  rotate_left
  · first | (refine Or.inr ⟨?_, ?_⟩ <;> rfl) | (refine Or.inl ⟨by rfl, ?_⟩; intro w hSw; (try dsimp only at hSw); first | (go_simp; done) | (go_simp; with_reducible rfl))
  try simp only [Act.put, List.setIfInBounds_toArray, List.set_cons_zero, List.set_cons_succ]
  refine held_take 7 (v := ?_) rfl (by kernel_rfl) (by kernel_rfl) (by kernel_rfl) (fun _ _ _ h => h) (by assumption) ?_ ?_
  rotate_left
  · first | (refine Or.inr ⟨?_, ?_⟩ <;> rfl) | (refine Or.inl ⟨by rfl, ?_⟩; intro w hSw; (try dsimp only at hSw); first | (go_simp; done) | (go_simp; with_reducible rfl))
  try simp only [Act.put, List.setIfInBounds_toArray, List.set_cons_zero, List.set_cons_succ]
  refine held_take 8 (v := ?_) rfl (by kernel_rfl) (by kernel_rfl) (by kernel_rfl) (fun _ _ _ h => h) (by assumption) ?_ ?_
  rotate_left
  · first | (refine Or.inr ⟨?_, ?_⟩ <;> rfl) | (refine Or.inl ⟨by rfl, ?_⟩; intro w hSw; (try dsimp only at hSw); first | (go_simp; done) | (go_simp; with_reducible rfl))
  try simp only [Act.put, List.setIfInBounds_toArray, List.set_cons_zero, List.set_cons_succ]
  refine held_take 10 (v := ?_) rfl (by kernel_rfl) (by kernel_rfl) (by kernel_rfl) (fun _ _ _ h => h) (by assumption) ?_ ?_
  rotate_left
  · first | (refine Or.inr ⟨?_, ?_⟩ <;> rfl) | (refine Or.inl ⟨by rfl, ?_⟩; intro w hSw; (try dsimp only at hSw); first | (go_simp; done) | (go_simp; with_reducible rfl))
  try simp only [Act.put, List.setIfInBounds_toArray, List.set_cons_zero, List.set_cons_succ]
  refine held_take 11 (v := ?_) rfl (by kernel_rfl) (by kernel_rfl) (by kernel_rfl) (fun _ _ _ h => h) (by assumption) ?_ ?_
  rotate_left
  · first | (refine Or.inr ⟨?_, ?_⟩ <;> rfl) | (refine Or.inl ⟨by rfl, ?_⟩; intro w hSw; (try dsimp only at hSw); first | (go_simp; done) | (go_simp; with_reducible rfl))
  try simp only [Act.put, List.setIfInBounds_toArray, List.set_cons_zero, List.set_cons_succ]
  refine held_take 12 (v := ?_) rfl (by kernel_rfl) (by kernel_rfl) (by kernel_rfl) (fun _ _ _ h => h) (by assumption) ?_ ?_
  rotate_left
  · first | (refine Or.inr ⟨?_, ?_⟩ <;> rfl) | (refine Or.inl ⟨by rfl, ?_⟩; intro w hSw; (try dsimp only at hSw); first | (go_simp; done) | (go_simp; with_reducible rfl))
  try simp only [Act.put, List.setIfInBounds_toArray, List.set_cons_zero, List.set_cons_succ]
  refine held_take 13 (v := ?_) rfl (by kernel_rfl) (by kernel_rfl) (by kernel_rfl) (fun _ _ _ h => h) (by assumption) ?_ ?_
  rotate_left
  · first | (refine Or.inr ⟨?_, ?_⟩ <;> rfl) | (refine Or.inl ⟨by rfl, ?_⟩; intro w hSw; (try dsimp only at hSw); first | (go_simp; done) | (go_simp; with_reducible rfl))
  try simp only [Act.put, List.setIfInBounds_toArray, List.set_cons_zero, List.set_cons_succ]
  refine held_call 9 rfl (by kernel_rfl) (fun K hK => ?_)
  go_simp
  with_reducible refine (times_any _ _ _ _ _ _ (by have := digs64 HLEN.out.2.1.1; omega) (by have := digs64 HLEN.out.2.2.1; omega) _ (HA.out.keep (Below.refl _ _).drew (Nat.le_refl _)) (HB.out.keep (Below.refl _ _).drew (Nat.le_refl _))).mono ?_
  rintro e w5 ⟨_, rfl, ⟨a5, c5, rfl, hs5⟩, hf5, hbk⟩
  have hb5 := hbk
  refine hK.out _ _ ?_ (fun hHeld => ?_)
  · first | exact hHeld | exact ⟨cell_keep' hHeld.1 hbk, cell_keep' hHeld.2.1 hbk, cell_keep' hHeld.2.2.1 hbk, cell_keep' hHeld.2.2.2.1 hbk, cell_keep' hHeld.2.2.2.2.1 hbk, cell_keep' hHeld.2.2.2.2.2.1 hbk, hHeld.2.2.2.2.2.2.1.keep hbk (Nat.le_refl _), hHeld.2.2.2.2.2.2.2.1.keep hbk (Nat.le_refl _), bstep hHeld.2.2.2.2.2.2.2.2.1 hbk (Nat.le_refl _), hHeld.2.2.2.2.2.2.2.2.2.imp fun _ => Exists.imp fun _ h => h.keep hbk (Nat.le_refl _)⟩
  clear hK K
  try simp only [Act.put, List.setIfInBounds_toArray, List.set_cons_zero, List.set_cons_succ]
  refine held_call 14 rfl (by kernel_rfl) (fun K hK => ?_)
  go_simp
  with_reducible refine (times_any _ _ _ _ _ _ (by have := digs64 HLEN.out.2.1.2; omega) (by have := digs64 HLEN.out.2.2.2; omega) _ (HD.out.keep (bstep (Below.refl _ _).drew hb5 (Nat.le_refl _)) (Nat.le_refl _)) (HE.out.keep (bstep (Below.refl _ _).drew hb5 (Nat.le_refl _)) (Nat.le_refl _))).mono ?_
  rintro e w6 ⟨_, rfl, ⟨a6, c6, rfl, hs6⟩, hf6, hbk⟩
  have hb6 := hbk
  refine hK.out _ _ ?_ (fun hHeld => ?_)
  · first | exact hHeld | exact ⟨cell_keep' hHeld.1 hbk, cell_keep' hHeld.2.1 hbk, cell_keep' hHeld.2.2.1 hbk, cell_keep' hHeld.2.2.2.1 hbk, cell_keep' hHeld.2.2.2.2.1 hbk, cell_keep' hHeld.2.2.2.2.2.1 hbk, hHeld.2.2.2.2.2.2.1.keep hbk (Nat.le_refl _), hHeld.2.2.2.2.2.2.2.1.keep hbk (Nat.le_refl _), bstep hHeld.2.2.2.2.2.2.2.2.1 hbk (Nat.le_refl _), hHeld.2.2.2.2.2.2.2.2.2.imp fun _ => Exists.imp fun _ h => h.keep hbk (Nat.le_refl _)⟩
  clear hK K
  try simp only [Act.put, List.setIfInBounds_toArray, List.set_cons_zero, List.set_cons_succ]
  refine held_take 15 (v := ?_) rfl (by kernel_rfl) (by kernel_rfl) (by kernel_rfl) (fun _ _ _ h => h) (by assumption) ?_ ?_
  rotate_left
  · first | (refine Or.inr ⟨?_, ?_⟩ <;> rfl) | (refine Or.inl ⟨by rfl, ?_⟩; intro w hSw; (try dsimp only at hSw); first | (go_simp; done) | (go_simp; with_reducible rfl))
  try simp only [Act.put, List.setIfInBounds_toArray, List.set_cons_zero, List.set_cons_succ]
  refine held_call 16 rfl (by kernel_rfl) (fun K hK => ?_)
  go_simp
  rw [HSG.out]
  with_reducible refine (lowest_any _ _ _ HLEN.out.1 (Nat.le_trans (len_mul (digs64 HLEN.out.2.1.1) (digs64 HLEN.out.2.2.1)) (by decide)) (Nat.le_trans (len_mul (digs64 HLEN.out.2.1.2) (digs64 HLEN.out.2.2.2)) (by decide)) _ _ _ _ _ (hs5.keep hb6 (Nat.le_refl _)) hs6).mono ?_
  rw [HV.out]
  rintro e w7 ⟨rfl, hbk⟩
  refine hK.out _ _ ?_ (fun hHeld => ?_)
  · first | exact hHeld | exact ⟨cell_keep' hHeld.1 hbk, cell_keep' hHeld.2.1 hbk, cell_keep' hHeld.2.2.1 hbk, cell_keep' hHeld.2.2.2.1 hbk, cell_keep' hHeld.2.2.2.2.1 hbk, cell_keep' hHeld.2.2.2.2.2.1 hbk, hHeld.2.2.2.2.2.2.1.keep hbk (Nat.le_refl _), hHeld.2.2.2.2.2.2.2.1.keep hbk (Nat.le_refl _), bstep hHeld.2.2.2.2.2.2.2.2.1 hbk (Nat.le_refl _), hHeld.2.2.2.2.2.2.2.2.2.imp fun _ => Exists.imp fun _ h => h.keep hbk (Nat.le_refl _)⟩
  clear hK K
  try simp only [Act.put, List.setIfInBounds_toArray, List.set_cons_zero, List.set_cons_succ]
  refine held_take 17 (v := ?_) rfl (by kernel_rfl) (by kernel_rfl) (by kernel_rfl) (fun _ _ _ h => h) (by assumption) ?_ ?_
  rotate_left
  · first | (refine Or.inr ⟨?_, ?_⟩ <;> rfl) | (refine Or.inl ⟨by rfl, ?_⟩; intro w hSw; (try dsimp only at hSw); first | (go_simp; done) | (go_simp; with_reducible rfl))
  try simp only [Act.put, List.setIfInBounds_toArray, List.set_cons_zero, List.set_cons_succ]
  refine held_take 18 (v := ?_) rfl (by kernel_rfl) (by kernel_rfl) (by kernel_rfl) (fun _ _ _ h => h) (by assumption) ?_ ?_
  rotate_left
  · first | (refine Or.inr ⟨?_, ?_⟩ <;> rfl) | (refine Or.inl ⟨by rfl, ?_⟩; intro w hSw; (try dsimp only at hSw); first | (go_simp; done) | (go_simp; with_reducible rfl))
  try simp only [Act.put, List.setIfInBounds_toArray, List.set_cons_zero, List.set_cons_succ]
  refine held_call 19 rfl (by kernel_rfl) (fun K hK => ?_)
  obtain ⟨q0, q1, hq⟩ := hHeld.2.2.2.2.2.2.2.2.2
  obtain ⟨z0, z1, z2, z3⟩ := hq.two
  have HQ := Lib.hid (blk2_set hq (.int .i64 X) (.int .i64 Y))
  have HBW2 := Lib.hid (below_set2 hHeld.2.2.2.2.2.2.2.2.1 (Nat.le_add_right w.heap.size 2) (.int .i64 X) (.int .i64 Y))
  have HT := Lib.hid (blk2_other hHeld.2.2.2.2.2.2.1 (Nat.ne_of_lt HG6.out) (.int .i64 X) (.int .i64 Y))
  have HT2 := Lib.hid (blk2_other hHeld.2.2.2.2.2.2.2.1 (Nat.ne_of_lt HG7.out) (.int .i64 X) (.int .i64 Y))
  go_simp
  refine hK.out _ _ ?_ (fun hHeld2 => ?_)
  · exact ⟨HT.out.three.1, HT.out.three.2.1, HT.out.three.2.2.1, HT2.out.three.1, HT2.out.three.2.1, HT2.out.three.2.2.1, HT.out, HT2.out, HBW2.out, _, _, HQ.out⟩
  clear hK K hHeld z0 z1 z2 z3 hq
  try simp only [Act.put, List.setIfInBounds_toArray, List.set_cons_zero, List.set_cons_succ]
  refine held_call 20 rfl (by kernel_rfl) (fun K hK => ?_)
  go_simp
  refine hK.out _ _ hHeld2 (fun hHeld => ?_)
  clear hK K hHeld2
  try simp only [Act.put, List.setIfInBounds_toArray, List.set_cons_zero, List.set_cons_succ]
  refine wpAnyH_done (by kernel_rfl) ?_ _
  obtain ⟨z0, z1, z2, z3⟩ := HQ.out.two
  go_wp2_with fail
  exact bodyPost_ret (v := .tuple #[.agg #[.int .i64 X, .int .i64 Y], .int .i64 kk]) (by simp [results, Tryd.results27, go_sem, z0, z1]) rfl ⟨by rw [HV.out], HBW2.out⟩

set_option maxRecDepth 100000 in
set_option maxHeartbeats 2000000 in
theorem refdiv_bad (na da nb db : Int) (h1 : In64 na) (h2 : In64 da) (h3 : In64 nb) (h4 : In64 db) (hb : rightB na da = false ∨ rightB nb db = false) (w : World) :
    Calls Tryd.prog 28 #[.agg #[.int .i64 na, .int .i64 da], .agg #[.int .i64 nb, .int .i64 db]] w fun e w' => e = .returned (.tuple #[.agg #[.int .i64 0, .int .i64 0], .int .i64 1]) ∧ Below w.heap.size w w' := by
  have ca := refright_any na da h1 h2
  have cb := refright_any nb db h3 h4
  have hbx := box3 w #[.int .i64 na, .int .i64 da] #[.int .i64 nb, .int .i64 db] #[.int .i64 0, .int .i64 0] 23 23 23
  obtain ⟨ta, tb, tr, hsz, hbw⟩ := hbx
  have TA := Lib.hid ta
  have TB := Lib.hid tb
  have TR := Lib.hid tr
  have HBW := Lib.hid hbw
  have HSZ := Lib.hid hsz
  clear ta tb hsz hbw
  cases ha : rightB na da
  · rw [ha] at ca
    clear cb hb
    go_enter Tryd.func28, Tryd.ntmps28
    go_wp2_with fail
    with_reducible refine (ca _).mono ?_
    rintro e w1 ⟨rfl, hb1⟩
    replace HBW := Lib.hid (bstep HBW.out hb1 (Nat.le_refl _))
    obtain ⟨r0, r1, r2, r3⟩ := (TR.out.keep hb1 (Nat.le_refl _)).two
    clear ca hb1
    go_wp2_with fail
    exact bodyPost_ret (v := .tuple #[.agg #[.int .i64 0, .int .i64 0], .int .i64 1]) (by simp [results, Tryd.results28, go_sem, r0, r1]) rfl ⟨rfl, by first | exact HBW.out | exact below_set2 HBW.out (by omega) _ _⟩
  · have hb2 : rightB nb db = false := by rcases hb with h | h; · rw [ha] at h; cases h
                                          · exact h
    rw [ha] at ca
    rw [hb2] at cb
    clear hb
    go_enter Tryd.func28, Tryd.ntmps28
    go_wp2_with fail
    with_reducible refine (ca _).mono ?_
    rintro e w1 ⟨rfl, hb1⟩
    replace HBW := Lib.hid (bstep HBW.out hb1 (Nat.le_refl _))
    replace TB := Lib.hid (TB.out.keep hb1 (Nat.le_refl _))
    obtain ⟨x0, x1, _, _⟩ := TB.out.two
    replace TR := Lib.hid (TR.out.keep hb1 (Nat.le_refl _))
    clear ca hb1
    go_wp2_with fail
    with_reducible refine (cb _).mono ?_
    rintro e w2 ⟨rfl, hb1⟩
    replace HBW := Lib.hid (bstep HBW.out hb1 (Nat.le_refl _))
    obtain ⟨r0, r1, r2, r3⟩ := (TR.out.keep hb1 (Nat.le_refl _)).two
    clear cb hb1
    go_wp2_with fail
    exact bodyPost_ret (v := .tuple #[.agg #[.int .i64 0, .int .i64 0], .int .i64 1]) (by simp [results, Tryd.results28, go_sem, r0, r1]) rfl ⟨rfl, by first | exact HBW.out | exact below_set2 HBW.out (by omega) _ _⟩

set_option maxRecDepth 100000 in
set_option maxHeartbeats 4000000 in
theorem refdiv_ok (na da nb db : Int) (ha : RightP na da) (hb : RightP nb db) (hn0 : nb ≠ 0) (w : World) :
    Calls Tryd.prog 28 #[.agg #[.int .i64 na, .int .i64 da], .agg #[.int .i64 nb, .int .i64 db]] w fun e w' => e = .returned (refV (fracI (if nb < 0 then -(na * db) else na * db) (da.natAbs * nb.natAbs))) ∧ Below w.heap.size w w' := by
  obtain ⟨a1, a2, a3, a4, a5⟩ := ha
  obtain ⟨b1, b2, b3, b4, b5⟩ := hb
  have ra := (rightB_iff na da ⟨a3, a4⟩ ⟨by omega, by omega⟩).2 ⟨a1, a2, a3, a4, a5⟩
  have rb := (rightB_iff nb db ⟨b3, b4⟩ ⟨by omega, by omega⟩).2 ⟨b1, b2, b3, b4, b5⟩
  have ca := refright_any na da ⟨a3, a4⟩ ⟨by omega, by omega⟩
  have cb := refright_any nb db ⟨b3, b4⟩ ⟨by omega, by omega⟩
  rw [ra] at ca
  rw [rb] at cb
  have ofa := of_any na da ⟨a3, a4⟩ ⟨by omega, by omega⟩
  have ofb := of_any nb db ⟨b3, b4⟩ ⟨by omega, by omega⟩
  have k1 : na.natAbs < 18446744073709551616 := by omega
  have k2 : da.natAbs < 18446744073709551616 := by omega
  have k3 : nb.natAbs < 18446744073709551616 := by omega
  have k4 : db.natAbs < 18446744073709551616 := by omega
  have hDE : 0 < da.natAbs * nb.natAbs := Nat.mul_pos (by omega) (by omega)
  have hval : frac (decide (na < 0) != decide (nb < 0)) (na.natAbs * db.natAbs) (da.natAbs * nb.natAbs) = _ := frac_of_sgn (sgn_div2b na nb db (by omega)) hDE
  rw [← hval]
  clear hval
  obtain ⟨sg, hsg⟩ : ∃ sg, sg = (decide (na < 0) != decide (nb < 0)) := ⟨_, rfl⟩
  rw [← hsg]
  have HSG := Lib.hid (show (!(decide (na < 0) == decide (nb < 0))) = sg from hsg.symm)
  obtain ⟨X, Y, kk, hsh⟩ := refV_shape (frac sg (na.natAbs * db.natAbs) (da.natAbs * nb.natAbs))
  have HV := Lib.hid hsh
  have HLEN := Lib.hid (And.intro hDE (And.intro (And.intro k1 k2) (And.intro k3 k4)))
  clear hsg hsh hDE k1 k2 k3 k4
  have hz : (nb == 0) = false := by rw [beq_eq_false_iff_ne]; exact hn0
  clear hn0
  have hbx := box3 w #[.int .i64 na, .int .i64 da] #[.int .i64 nb, .int .i64 db] #[.int .i64 0, .int .i64 0] 23 23 23
  obtain ⟨ta, tb, tr, hsz, hbw⟩ := hbx
  have TA := Lib.hid ta
  have TB := Lib.hid tb
  have TR := Lib.hid tr
  have HBW := Lib.hid hbw
  clear ta tb tr hsz hbw
  clear a1 a2 a3 a4 a5 b1 b2 b3 b4 b5 ra rb
  go_enter Tryd.func28, Tryd.ntmps28
  go_wp2_with fail
  with_reducible refine (ca _).mono ?_
  rintro e w1 ⟨rfl, hb1⟩
  replace HBW := Lib.hid (bstep HBW.out hb1 (Nat.le_refl _))
  replace TA := Lib.hid (TA.out.keep hb1 (Nat.le_refl _))
  replace TB := Lib.hid (TB.out.keep hb1 (Nat.le_refl _))
  replace TR := Lib.hid (TR.out.keep hb1 (Nat.le_refl _))
  obtain ⟨x0, x1, _, _⟩ := TB.out.two
  clear ca hb1
  go_wp2_with fail
  with_reducible refine (cb _).mono ?_
  rintro e w2 ⟨rfl, hb1⟩
  replace HBW := Lib.hid (bstep HBW.out hb1 (Nat.le_refl _))
  replace TA := Lib.hid (TA.out.keep hb1 (Nat.le_refl _))
  replace TB := Lib.hid (TB.out.keep hb1 (Nat.le_refl _))
  replace TR := Lib.hid (TR.out.keep hb1 (Nat.le_refl _))
  clear x0 x1 cb hb1
  obtain ⟨x0, x1, _, _⟩ := TA.out.two
  obtain ⟨y0, y1, _, _⟩ := TB.out.two
  go_wp2_with fail
  with_reducible refine (ofa _).mono ?_
  rintro e w3 ⟨_, rfl, ⟨_, _, rfl, ⟨aa, cA, rfl, hsa⟩, ⟨ad, cD, rfl, hsd⟩⟩, hb1⟩
  replace HBW := Lib.hid (bstep HBW.out hb1 (Nat.le_refl _))
  replace TB := Lib.hid (TB.out.keep hb1 (Nat.le_refl _))
  replace TR := Lib.hid (TR.out.keep hb1 (Nat.le_refl _))
  clear ofa hb1 x0 x1 y0 y1
  obtain ⟨t6, hsz6, hb6⟩ := box1 w3 #[.bool (decide (na < 0)), .slice aa (digs na.natAbs).length cA, .slice ad (digs da.natAbs).length cD] 64
  have T6 := Lib.hid t6
  have HG6 := Lib.hid (show w.heap.size + 1 + 1 < w3.heap.size from TR.out.lt)
  replace HBW := Lib.hid (bstep HBW.out hb6 (Nat.le_refl _))
  replace TB := Lib.hid (TB.out.keep hb6 (Nat.le_refl _))
  replace TR := Lib.hid (TR.out.keep hb6 (Nat.le_refl _))
  have HA := Lib.hid (hsa.keep hb6 (Nat.le_refl _))
  have HD := Lib.hid (hsd.keep hb6 (Nat.le_refl _))
  clear t6 hsz6 hb6 hsa hsd
  obtain ⟨y0, y1, _, _⟩ := TB.out.two
  go_wp2_with fail
  with_reducible refine (ofb _).mono ?_
  rintro e w4 ⟨_, rfl, ⟨_, _, rfl, ⟨ab, cB, rfl, hsb⟩, ⟨ae, cE, rfl, hse⟩⟩, hb1⟩
  replace HBW := Lib.hid (bstep HBW.out hb1 (Nat.le_refl _))
  replace TR := Lib.hid (TR.out.keep hb1 (Nat.le_refl _))
  replace T6 := Lib.hid (T6.out.keep hb1 (Nat.le_refl _))
  replace HA := Lib.hid (HA.out.keep hb1 (Nat.le_refl _))
  replace HD := Lib.hid (HD.out.keep hb1 (Nat.le_refl _))
  clear ofb hb1 y0 y1 TB TA
  obtain ⟨t7, hsz7, hb7⟩ := box1 w4 #[.bool (decide (nb < 0)), .slice ab (digs nb.natAbs).length cB, .slice ae (digs db.natAbs).length cE] 64
  have T7 := Lib.hid t7
  have HG7 := Lib.hid (show w.heap.size + 1 + 1 < w4.heap.size from TR.out.lt)
  replace HBW := Lib.hid (bstep HBW.out hb7 (Nat.le_refl _))
  replace TR := Lib.hid (TR.out.keep hb7 (Nat.le_refl _))
  replace T6 := Lib.hid (T6.out.keep hb7 (Nat.le_refl _))
  replace HA := Lib.hid (HA.out.keep hb7 (Nat.le_refl _))
  replace HD := Lib.hid (HD.out.keep hb7 (Nat.le_refl _))
  have HB := Lib.hid (hsb.keep hb7 (Nat.le_refl _))
  have HE := Lib.hid (hse.keep hb7 (Nat.le_refl _))
  clear t7 hsz7 hb7 hsb hse
  go_wp2_with fail
  generalize w4.alloc (.cells #[.bool (decide (nb < 0)), .slice ab (digs nb.natAbs).length cB, .slice ae (digs db.natAbs).length cE] 64) = W at *
  generalize w3.heap.size = g6 at *
  generalize w4.heap.size = g7 at *
  obtain ⟨x0, x1, x2, _, _, _⟩ := T6.out.three
  obtain ⟨y0, y1, y2, _, _, _⟩ := T7.out.three
  refine wp_region_held_drew (S := (fun (w' : World) => w'.cell? ⟨g6, 0, none⟩ = some (.bool (decide (na < 0))) ∧ w'.cell? ⟨g6, 1, none⟩ = some (.slice aa (digs na.natAbs).length cA) ∧ w'.cell? ⟨g6, 2, none⟩ = some (.slice ad (digs da.natAbs).length cD) ∧ w'.cell? ⟨g7, 0, none⟩ = some (.bool (decide (nb < 0))) ∧ w'.cell? ⟨g7, 1, none⟩ = some (.slice ab (digs nb.natAbs).length cB) ∧ w'.cell? ⟨g7, 2, none⟩ = some (.slice ae (digs db.natAbs).length cE) ∧ Blk w' g6 #[.bool (decide (na < 0)), .slice aa (digs na.natAbs).length cA, .slice ad (digs da.natAbs).length cD] ∧ Blk w' g7 #[.bool (decide (nb < 0)), .slice ab (digs nb.natAbs).length cB, .slice ae (digs db.natAbs).length cE] ∧ Below w.heap.size w w' ∧ ∃ x y, Blk w' (w.heap.size + 1 + 1) #[x, y])) (by kernel_rfl) ⟨x0, x1, x2, y0, y1, y2, T6.out.keep (Below.refl _ _).drew (Nat.le_refl _), T7.out.keep (Below.refl _ _).drew (Nat.le_refl _), HBW.out.drew, _, _, TR.out.keep (Below.refl _ _).drew (Nat.le_refl _)⟩ (fun hHeld => ?_)
  refine held_take 0 (v := ?_) rfl (by kernel_rfl) (by kernel_rfl) (by kernel_rfl) (fun _ _ _ h => h) (by assumption) ?_ ?_
  rotate_left
  · first | (refine Or.inr ⟨?_, ?_⟩ <;> rfl) | (refine Or.inl ⟨by rfl, ?_⟩; intro w hSw; (try dsimp only at hSw); first | (go_simp; done) | (go_simp; with_reducible rfl))
  try simp only [Act.put, List.setIfInBounds_toArray, List.set_cons_zero, List.set_cons_succ]
  refine held_take 1 (v := ?_) rfl (by kernel_rfl) (by kernel_rfl) (by kernel_rfl) (fun _ _ _ h => h) (by assumption) ?_ ?_
  rotate_left
  · first | (refine Or.inr ⟨?_, ?_⟩ <;> rfl) | (refine Or.inl ⟨by rfl, ?_⟩; intro w hSw; (try dsimp only at hSw); first | (go_simp; done) | (go_simp; with_reducible rfl))
  try simp only [Act.put, List.setIfInBounds_toArray, List.set_cons_zero, List.set_cons_succ]
  refine held_take 2 (v := ?_) rfl (by kernel_rfl) (by kernel_rfl) (by kernel_rfl) (fun _ _ _ h => h) (by assumption) ?_ ?_
  rotate_left
  · first | (refine Or.inr ⟨?_, ?_⟩ <;> rfl) | (refine Or.inl ⟨by rfl, ?_⟩; intro w hSw; (try dsimp only at hSw); first | (go_simp; done) | (go_simp; with_reducible rfl))
  try simp only [Act.put, List.setIfInBounds_toArray, List.set_cons_zero, List.set_cons_succ]
  refine held_take 3 (v := ?_) rfl (by kernel_rfl) (by kernel_rfl) (by kernel_rfl) (fun _ _ _ h => h) (by assumption) ?_ ?_
  rotate_left
  · first | (refine Or.inr ⟨?_, ?_⟩ <;> rfl) | (refine Or.inl ⟨by rfl, ?_⟩; intro w hSw; (try dsimp only at hSw); first | (go_simp; done) | (go_simp; with_reducible rfl))
  try simp only [Act.put, List.setIfInBounds_toArray, List.set_cons_zero, List.set_cons_succ]
  refine held_take 4 (v := ?_) rfl (by kernel_rfl) (by kernel_rfl) (by kernel_rfl) (fun _ _ _ h => h) (by assumption) ?_ ?_
  rotate_left
  · first | (refine Or.inr ⟨?_, ?_⟩ <;> rfl) | (refine Or.inl ⟨by rfl, ?_⟩; intro w hSw; (try dsimp only at hSw); first | (go_simp; done) | (go_simp; with_reducible rfl))
  try simp only [Act.put, List.setIfInBounds_toArray, List.set_cons_zero, List.set_cons_succ]
  refine held_take 5 (v := ?_) rfl (by kernel_rfl) (by kernel_rfl) (by kernel_rfl) (fun _ _ _ h => h) (by assumption) ?_ ?_
  rotate_left
  · first | (refine Or.inr ⟨?_, ?_⟩ <;> rfl) | (refine Or.inl ⟨by rfl, ?_⟩; intro w hSw; (try dsimp only at hSw); first | (go_simp; done) | (go_simp; with_reducible rfl))
  try simp only [Act.put, List.setIfInBounds_toArray, List.set_cons_zero, List.set_cons_succ]
  refine held_take 6 (v := ?_) rfl (by kernel_rfl) (by kernel_rfl) (by kernel_rfl) (fun _ _ _ h => h) (by assumption) ?_ ?_
  rotate_left
  · first | (refine Or.inr ⟨?_, ?_⟩ <;> rfl) | (refine Or.inl ⟨by rfl, ?_⟩; intro w hSw; (try dsimp only at hSw); first | (go_simp; done) | (go_simp; with_reducible rfl))
  try simp only [Act.put, List.setIfInBounds_toArray, List.set_cons_zero, List.set_cons_succ]
  refine held_take 7 (v := ?_) rfl (by kernel_rfl) (by kernel_rfl) (by kernel_rfl) (fun _ _ _ h => h) (by assumption) ?_ ?_
  rotate_left
  · first | (refine Or.inr ⟨?_, ?_⟩ <;> rfl) | (refine Or.inl ⟨by rfl, ?_⟩; intro w hSw; (try dsimp only at hSw); first | (go_simp; done) | (go_simp; with_reducible rfl))
  try simp only [Act.put, List.setIfInBounds_toArray, List.set_cons_zero, List.set_cons_succ]
  refine held_take 8 (v := ?_) rfl (by kernel_rfl) (by kernel_rfl) (by kernel_rfl) (fun _ _ _ h => h) (by assumption) ?_ ?_
  rotate_left
  · first | (refine Or.inr ⟨?_, ?_⟩ <;> rfl) | (refine Or.inl ⟨by rfl, ?_⟩; intro w hSw; (try dsimp only at hSw); first | (go_simp; done) | (go_simp; with_reducible rfl))
  try simp only [Act.put, List.setIfInBounds_toArray, List.set_cons_zero, List.set_cons_succ]
  refine held_take 10 (v := ?_) rfl (by kernel_rfl) (by kernel_rfl) (by kernel_rfl) (fun _ _ _ h => h) (by assumption) ?_ ?_
  rotate_left
  · first | (refine Or.inr ⟨?_, ?_⟩ <;> rfl) | (refine Or.inl ⟨by rfl, ?_⟩; intro w hSw; (try dsimp only at hSw); first | (go_simp; done) | (go_simp; with_reducible rfl))
  try simp only [Act.put, List.setIfInBounds_toArray, List.set_cons_zero, List.set_cons_succ]
  refine held_take 11 (v := ?_) rfl (by kernel_rfl) (by kernel_rfl) (by kernel_rfl) (fun _ _ _ h => h) (by assumption) ?_ ?_
  rotate_left
  · first | (refine Or.inr ⟨?_, ?_⟩ <;> rfl) | (refine Or.inl ⟨by rfl, ?_⟩; intro w hSw; (try dsimp only at hSw); first | (go_simp; done) | (go_simp; with_reducible rfl))
  try simp only [Act.put, List.setIfInBounds_toArray, List.set_cons_zero, List.set_cons_succ]
  refine held_take 12 (v := ?_) rfl (by kernel_rfl) (by kernel_rfl) (by kernel_rfl) (fun _ _ _ h => h) (by assumption) ?_ ?_
  rotate_left
  · first | (refine Or.inr ⟨?_, ?_⟩ <;> rfl) | (refine Or.inl ⟨by rfl, ?_⟩; intro w hSw; (try dsimp only at hSw); first | (go_simp; done) | (go_simp; with_reducible rfl))
  try simp only [Act.put, List.setIfInBounds_toArray, List.set_cons_zero, List.set_cons_succ]
  refine held_take 13 (v := ?_) rfl (by kernel_rfl) (by kernel_rfl) (by kernel_rfl) (fun _ _ _ h => h) (by assumption) ?_ ?_
  rotate_left
  · first | (refine Or.inr ⟨?_, ?_⟩ <;> rfl) | (refine Or.inl ⟨by rfl, ?_⟩; intro w hSw; (try dsimp only at hSw); first | (go_simp; done) | (go_simp; with_reducible rfl))
  try simp only [Act.put, List.setIfInBounds_toArray, List.set_cons_zero, List.set_cons_succ]
  refine held_call 9 rfl (by kernel_rfl) (fun K hK => ?_)
  go_simp
  with_reducible refine (times_any _ _ _ _ _ _ (by have := digs64 HLEN.out.2.1.1; omega) (by have := digs64 HLEN.out.2.2.2; omega) _ (HA.out.keep (Below.refl _ _).drew (Nat.le_refl _)) (HE.out.keep (Below.refl _ _).drew (Nat.le_refl _))).mono ?_
  rintro e w5 ⟨_, rfl, ⟨a5, c5, rfl, hs5⟩, hf5, hbk⟩
  have hb5 := hbk
  refine hK.out _ _ ?_ (fun hHeld => ?_)
  · first | exact hHeld | exact ⟨cell_keep' hHeld.1 hbk, cell_keep' hHeld.2.1 hbk, cell_keep' hHeld.2.2.1 hbk, cell_keep' hHeld.2.2.2.1 hbk, cell_keep' hHeld.2.2.2.2.1 hbk, cell_keep' hHeld.2.2.2.2.2.1 hbk, hHeld.2.2.2.2.2.2.1.keep hbk (Nat.le_refl _), hHeld.2.2.2.2.2.2.2.1.keep hbk (Nat.le_refl _), bstep hHeld.2.2.2.2.2.2.2.2.1 hbk (Nat.le_refl _), hHeld.2.2.2.2.2.2.2.2.2.imp fun _ => Exists.imp fun _ h => h.keep hbk (Nat.le_refl _)⟩
  clear hK K
  try simp only [Act.put, List.setIfInBounds_toArray, List.set_cons_zero, List.set_cons_succ]
  refine held_call 14 rfl (by kernel_rfl) (fun K hK => ?_)
  go_simp
  with_reducible refine (times_any _ _ _ _ _ _ (by have := digs64 HLEN.out.2.1.2; omega) (by have := digs64 HLEN.out.2.2.1; omega) _ (HD.out.keep (bstep (Below.refl _ _).drew hb5 (Nat.le_refl _)) (Nat.le_refl _)) (HB.out.keep (bstep (Below.refl _ _).drew hb5 (Nat.le_refl _)) (Nat.le_refl _))).mono ?_
  rintro e w6 ⟨_, rfl, ⟨a6, c6, rfl, hs6⟩, hf6, hbk⟩
  have hb6 := hbk
  refine hK.out _ _ ?_ (fun hHeld => ?_)
  · first | exact hHeld | exact ⟨cell_keep' hHeld.1 hbk, cell_keep' hHeld.2.1 hbk, cell_keep' hHeld.2.2.1 hbk, cell_keep' hHeld.2.2.2.1 hbk, cell_keep' hHeld.2.2.2.2.1 hbk, cell_keep' hHeld.2.2.2.2.2.1 hbk, hHeld.2.2.2.2.2.2.1.keep hbk (Nat.le_refl _), hHeld.2.2.2.2.2.2.2.1.keep hbk (Nat.le_refl _), bstep hHeld.2.2.2.2.2.2.2.2.1 hbk (Nat.le_refl _), hHeld.2.2.2.2.2.2.2.2.2.imp fun _ => Exists.imp fun _ h => h.keep hbk (Nat.le_refl _)⟩
  clear hK K
  try simp only [Act.put, List.setIfInBounds_toArray, List.set_cons_zero, List.set_cons_succ]
  refine held_take 15 (v := ?_) rfl (by kernel_rfl) (by kernel_rfl) (by kernel_rfl) (fun _ _ _ h => h) (by assumption) ?_ ?_
  rotate_left
  · first | (refine Or.inr ⟨?_, ?_⟩ <;> rfl) | (refine Or.inl ⟨by rfl, ?_⟩; intro w hSw; (try dsimp only at hSw); first | (go_simp; done) | (go_simp; with_reducible rfl))
  try simp only [Act.put, List.setIfInBounds_toArray, List.set_cons_zero, List.set_cons_succ]
  refine held_call 16 rfl (by kernel_rfl) (fun K hK => ?_)
  go_simp
  rw [HSG.out]
  with_reducible refine (lowest_any _ _ _ HLEN.out.1 (Nat.le_trans (len_mul (digs64 HLEN.out.2.1.1) (digs64 HLEN.out.2.2.2)) (by decide)) (Nat.le_trans (len_mul (digs64 HLEN.out.2.1.2) (digs64 HLEN.out.2.2.1)) (by decide)) _ _ _ _ _ (hs5.keep hb6 (Nat.le_refl _)) hs6).mono ?_
  rw [HV.out]
  rintro e w7 ⟨rfl, hbk⟩
  refine hK.out _ _ ?_ (fun hHeld => ?_)
  · first | exact hHeld | exact ⟨cell_keep' hHeld.1 hbk, cell_keep' hHeld.2.1 hbk, cell_keep' hHeld.2.2.1 hbk, cell_keep' hHeld.2.2.2.1 hbk, cell_keep' hHeld.2.2.2.2.1 hbk, cell_keep' hHeld.2.2.2.2.2.1 hbk, hHeld.2.2.2.2.2.2.1.keep hbk (Nat.le_refl _), hHeld.2.2.2.2.2.2.2.1.keep hbk (Nat.le_refl _), bstep hHeld.2.2.2.2.2.2.2.2.1 hbk (Nat.le_refl _), hHeld.2.2.2.2.2.2.2.2.2.imp fun _ => Exists.imp fun _ h => h.keep hbk (Nat.le_refl _)⟩
  clear hK K
  try simp only [Act.put, List.setIfInBounds_toArray, List.set_cons_zero, List.set_cons_succ]
  refine held_take 17 (v := ?_) rfl (by kernel_rfl) (by kernel_rfl) (by kernel_rfl) (fun _ _ _ h => h) (by assumption) ?_ ?_
  rotate_left
  · first | (refine Or.inr ⟨?_, ?_⟩ <;> rfl) | (refine Or.inl ⟨by rfl, ?_⟩; intro w hSw; (try dsimp only at hSw); first | (go_simp; done) | (go_simp; with_reducible rfl))
  try simp only [Act.put, List.setIfInBounds_toArray, List.set_cons_zero, List.set_cons_succ]
  refine held_take 18 (v := ?_) rfl (by kernel_rfl) (by kernel_rfl) (by kernel_rfl) (fun _ _ _ h => h) (by assumption) ?_ ?_
  rotate_left
  · first | (refine Or.inr ⟨?_, ?_⟩ <;> rfl) | (refine Or.inl ⟨by rfl, ?_⟩; intro w hSw; (try dsimp only at hSw); first | (go_simp; done) | (go_simp; with_reducible rfl))
  try simp only [Act.put, List.setIfInBounds_toArray, List.set_cons_zero, List.set_cons_succ]
  refine held_call 19 rfl (by kernel_rfl) (fun K hK => ?_)
  obtain ⟨q0, q1, hq⟩ := hHeld.2.2.2.2.2.2.2.2.2
  obtain ⟨z0, z1, z2, z3⟩ := hq.two
  have HQ := Lib.hid (blk2_set hq (.int .i64 X) (.int .i64 Y))
  have HBW2 := Lib.hid (below_set2 hHeld.2.2.2.2.2.2.2.2.1 (Nat.le_add_right w.heap.size 2) (.int .i64 X) (.int .i64 Y))
  have HT := Lib.hid (blk2_other hHeld.2.2.2.2.2.2.1 (Nat.ne_of_lt HG6.out) (.int .i64 X) (.int .i64 Y))
  have HT2 := Lib.hid (blk2_other hHeld.2.2.2.2.2.2.2.1 (Nat.ne_of_lt HG7.out) (.int .i64 X) (.int .i64 Y))
  go_simp
  refine hK.out _ _ ?_ (fun hHeld2 => ?_)
  · exact ⟨HT.out.three.1, HT.out.three.2.1, HT.out.three.2.2.1, HT2.out.three.1, HT2.out.three.2.1, HT2.out.three.2.2.1, HT.out, HT2.out, HBW2.out, _, _, HQ.out⟩
  clear hK K hHeld z0 z1 z2 z3 hq
  try simp only [Act.put, List.setIfInBounds_toArray, List.set_cons_zero, List.set_cons_succ]
  refine held_call 20 rfl (by kernel_rfl) (fun K hK => ?_)
  go_simp
  refine hK.out _ _ hHeld2 (fun hHeld => ?_)
  clear hK K hHeld2
  try simp only [Act.put, List.setIfInBounds_toArray, List.set_cons_zero, List.set_cons_succ]
  refine wpAnyH_done (by kernel_rfl) ?_ _
  obtain ⟨z0, z1, z2, z3⟩ := HQ.out.two
  go_wp2_with fail
  exact bodyPost_ret (v := .tuple #[.agg #[.int .i64 X, .int .i64 Y], .int .i64 kk]) (by simp [results, Tryd.results28, go_sem, z0, z1]) rfl ⟨by rw [HV.out], HBW2.out⟩

end Go.Proofs.YtaipghojggiopaaDoor
