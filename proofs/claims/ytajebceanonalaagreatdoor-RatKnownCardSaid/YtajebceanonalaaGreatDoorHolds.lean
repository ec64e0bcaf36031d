/-
  The walk of RatHolds.
-/
import Derived.Test.YtajebceanonalaaGreatDoorRefB
import Derived.Test.YtajebceanonalaaGreatDoorRatQ
import Derived.Test.YtajebceanonalaaGreatDoorPlain
import Derived.Test.YtajebceanonalaaGreatDoorParR
import Derived.Test.YtajebceanonalaaGreatDoorNewP

namespace Go.Proofs.YtajebceanonalaaGreatDoor
set_option linter.unusedVariables false
open Go.RowKit


set_option maxRecDepth 100000 in
set_option maxHeartbeats 4000000 in
theorem refdivz_ok (na da nb db : Int) (ha : RightP na da) (hb : RightP nb db) (hn0 : nb = 0) (w : World) :
    Calls Tryz.prog 87 #[.agg #[.int .i64 na, .int .i64 da], .agg #[.int .i64 nb, .int .i64 db]] w fun e w' => e = .returned (.tuple #[.agg #[.int .i64 0, .int .i64 0], .int .i64 10]) ∧ Below w.heap.size w w' := by
  obtain ⟨a1, a2, a3, a4, a5⟩ := ha
  obtain ⟨b1, b2, b3, b4, b5⟩ := hb
  have ra := (rightB_iff na da ⟨a3, a4⟩ ⟨by omega, by omega⟩).2 ⟨a1, a2, a3, a4, a5⟩
  have rb := (rightB_iff nb db ⟨b3, b4⟩ ⟨by omega, by omega⟩).2 ⟨b1, b2, b3, b4, b5⟩
  have ca := refright_any na da ⟨a3, a4⟩ ⟨by omega, by omega⟩
  have cb := refright_any nb db ⟨b3, b4⟩ ⟨by omega, by omega⟩
  rw [ra] at ca
  rw [rb] at cb
  have hz : (nb == 0) = true := by rw [beq_iff_eq]; exact hn0
  clear hn0
  have hbx := box3 w #[.int .i64 na, .int .i64 da] #[.int .i64 nb, .int .i64 db] #[.int .i64 0, .int .i64 0] 23 23 23
  obtain ⟨ta, tb, tr, hsz, hbw⟩ := hbx
  have TA := Lib.hid ta
  have TB := Lib.hid tb
  have TR := Lib.hid tr
  have HBW := Lib.hid hbw
  clear ta tb tr hsz hbw
  clear a1 a2 a3 a4 a5 b1 b2 b3 b4 b5 ra rb
  go_enter Tryz.func87, Tryz.ntmps87
  go_wp2_with fail
  with_reducible refine (ca _).mono ?_
  rintro e w1 ⟨rfl, hb1⟩
  replace HBW := Lib.hid (bstep HBW.out hb1 (Nat.le_refl _))
  replace TA := Lib.hid (TA.out.keep hb1 (Nat.le_refl _))
  replace TB := Lib.hid (TB.out.keep hb1 (Nat.le_refl _))
  replace TR := Lib.hid (TR.out.keep hb1 (Nat.le_refl _))
  obtain ⟨x0, x1, _, _⟩ := TB.out.two
  clear ca hb1
  go_wp2_with fail
  with_reducible refine (cb _).mono ?_
  rintro e w2 ⟨rfl, hb1⟩
  replace HBW := Lib.hid (bstep HBW.out hb1 (Nat.le_refl _))
  replace TA := Lib.hid (TA.out.keep hb1 (Nat.le_refl _))
  replace TB := Lib.hid (TB.out.keep hb1 (Nat.le_refl _))
  replace TR := Lib.hid (TR.out.keep hb1 (Nat.le_refl _))
  clear x0 x1 cb hb1
  obtain ⟨x0, x1, _, _⟩ := TA.out.two
  obtain ⟨y0, y1, _, _⟩ := TB.out.two
  obtain ⟨z0, z1, z2, z3⟩ := TR.out.two
  go_wp2_with fail
  exact bodyPost_ret (v := .tuple #[.agg #[.int .i64 0, .int .i64 0], .int .i64 10]) (by simp [results, Tryz.results87, go_sem, z0, z1]) rfl ⟨rfl, by first | exact HBW.out | exact below_set2 HBW.out (by omega) _ _⟩


def refmulV (na da nb db : Int) : Value := if rightB na da && rightB nb db then refV (fracI (na * nb) (da.natAbs * db.natAbs)) else refargV
def refzeroV : Value := .tuple #[.agg #[.int .i64 0, .int .i64 0], .int .i64 10]
def refdivV (na da nb db : Int) : Value :=
  if rightB na da && rightB nb db then (if nb = 0 then refzeroV else refV (fracI (if nb < 0 then -(na * db) else na * db) (da.natAbs * nb.natAbs))) else refargV
theorem refadd_any (na da nb db : Int) (h1 : In64 na) (h2 : In64 da) (h3 : In64 nb) (h4 : In64 db) (w : World) :
    Calls Tryz.prog 84 #[.agg #[.int .i64 na, .int .i64 da], .agg #[.int .i64 nb, .int .i64 db]] w fun e w' => e = .returned (refsumV na da nb db false) ∧ Below w.heap.size w w' := by
  unfold refsumV
  cases ha : rightB na da
  · exact refadd_bad na da nb db h1 h2 h3 h4 (.inl ha) w
  · cases hb : rightB nb db
    · exact refadd_bad na da nb db h1 h2 h3 h4 (.inr hb) w
    · exact refadd_ok na da nb db ((rightB_iff na da h1 h2).1 ha) ((rightB_iff nb db h3 h4).1 hb) w
theorem refsub_any (na da nb db : Int) (h1 : In64 na) (h2 : In64 da) (h3 : In64 nb) (h4 : In64 db) (w : World) :
    Calls Tryz.prog 85 #[.agg #[.int .i64 na, .int .i64 da], .agg #[.int .i64 nb, .int .i64 db]] w fun e w' => e = .returned (refsumV na da nb db true) ∧ Below w.heap.size w w' := by
  unfold refsumV
  cases ha : rightB na da
  · exact refsub_bad na da nb db h1 h2 h3 h4 (.inl ha) w
  · cases hb : rightB nb db
    · exact refsub_bad na da nb db h1 h2 h3 h4 (.inr hb) w
    · exact refsub_ok na da nb db ((rightB_iff na da h1 h2).1 ha) ((rightB_iff nb db h3 h4).1 hb) w
theorem refmul_any (na da nb db : Int) (h1 : In64 na) (h2 : In64 da) (h3 : In64 nb) (h4 : In64 db) (w : World) :
    Calls Tryz.prog 86 #[.agg #[.int .i64 na, .int .i64 da], .agg #[.int .i64 nb, .int .i64 db]] w fun e w' => e = .returned (refmulV na da nb db) ∧ Below w.heap.size w w' := by
  unfold refmulV
  cases ha : rightB na da
  · exact refmul_bad na da nb db h1 h2 h3 h4 (.inl ha) w
  · cases hb : rightB nb db
    · exact refmul_bad na da nb db h1 h2 h3 h4 (.inr hb) w
    · exact refmul_ok na da nb db ((rightB_iff na da h1 h2).1 ha) ((rightB_iff nb db h3 h4).1 hb) w
theorem refdiv_any (na da nb db : Int) (h1 : In64 na) (h2 : In64 da) (h3 : In64 nb) (h4 : In64 db) (w : World) :
    Calls Tryz.prog 87 #[.agg #[.int .i64 na, .int .i64 da], .agg #[.int .i64 nb, .int .i64 db]] w fun e w' => e = .returned (refdivV na da nb db) ∧ Below w.heap.size w w' := by
  unfold refdivV
  cases ha : rightB na da
  · exact refdiv_bad na da nb db h1 h2 h3 h4 (.inl ha) w
  · cases hb : rightB nb db
    · exact refdiv_bad na da nb db h1 h2 h3 h4 (.inr hb) w
    · rw [Bool.and_self, if_pos rfl]
      by_cases h0 : nb = 0
      · rw [if_pos h0]
        exact refdivz_ok na da nb db ((rightB_iff na da h1 h2).1 ha) ((rightB_iff nb db h3 h4).1 hb) h0 w
      · rw [if_neg h0]
        exact refdiv_ok na da nb db ((rightB_iff na da h1 h2).1 ha) ((rightB_iff nb db h3 h4).1 hb) h0 w
end Go.Proofs.YtajebceanonalaaGreatDoor

namespace Go.Proofs.YtajebceanonalaaGreatDoor
set_option linter.unusedVariables false
open Go.RowKit

theorem alloc_one {B : Nat} {w0 w : World} (h : Below B w0 w) (cs : Array Value) (T : TypeId) : ∃ wE, w.alloc (.cells cs T) = wE ∧ Below w.heap.size w wE ∧ Blk wE w.heap.size cs := ⟨_, rfl, (Below.refl _ _).alloc (Nat.le_refl _) _, Blk.new w cs T⟩
/-- two operations are ready: either comes first -/
theorem held_call2 {P : Program} {md : Region.Mode} {ops : Array Oper} {Q : Exit → Act → World → Prop} {S : World → Prop} (i j : Nat) {o o2 : Oper} {fuel : Nat} {listed : Array Bool} {a : Act} {w : World} (ho : ops.toList[i]? = some o) (ho2 : ops.toList[j]? = some o2) (hr : Region.ready md ops listed = [i, j])
    (h : ∀ K' : Act → World → Prop, Shut (∀ a w, S w → (S w → wpAnyH P md ops Q S fuel (listed.setIfInBounds i true) a w) → K' a w) → if Region.wanted o (yielded ops a.tmps) = true then Oper.wp P o a w K' Q else K' (a.put o.dst undef) w)
    (h2 : ∀ K' : Act → World → Prop, Shut (∀ a w, S w → (S w → wpAnyH P md ops Q S fuel (listed.setIfInBounds j true) a w) → K' a w) → if Region.wanted o2 (yielded ops a.tmps) = true then Oper.wp P o2 a w K' Q else K' (a.put o2.dst undef) w) :
    wpAnyH P md ops Q S (fuel + 1) listed a w :=
  wpAnyH_ready (rs := [i, j]) hr (by simp) (AllReadyH.cons (by rw [← Array.getElem?_toList]; exact ho) h (AllReadyH.cons (by rw [← Array.getElem?_toList]; exact ho2) h2 AllReadyH.nil))
def refcmpV (c : Int) : Value := .tuple #[.int .i64 c, .int .i64 0]
def refargC : Value := .tuple #[.int .i64 0, .int .i64 1]
theorem refcmp_val {na da nb db : Int} {b : Bool} {N : Nat} (h : sgn b N = na * db + -nb * da) : cmpI na da nb db = if N = 0 then 0 else if b then -1 else 1 := by
  unfold cmpI
  rw [Int.neg_mul] at h
  by_cases h0 : N = 0
  · subst h0
    rw [sgn_zero] at h
    rw [if_pos rfl, if_neg (by omega), if_pos (by omega)]
  · rw [if_neg h0]
    cases b
    · simp [sgn] at h
      rw [if_neg (by omega), if_neg (by omega)]
      rfl
    · simp [sgn] at h
      rw [if_pos (by omega)]
      rfl
theorem refsum_sgn (na da nb db : Int) (h1 : 0 < da) (h2 : 0 < db) :
    sgn (sumF (decide (na < 0)) na.natAbs da.natAbs (!decide (nb < 0)) nb.natAbs db.natAbs).1 (sumF (decide (na < 0)) na.natAbs da.natAbs (!decide (nb < 0)) nb.natAbs db.natAbs).2 = na * db + -nb * da := by
  rw [sumF_val, sgn_self, sgn_not, sgn_self]
  have e1 : (db.natAbs : Int) = db := by omega
  have e2 : (da.natAbs : Int) = da := by omega
  rw [e1, e2]


set_option maxRecDepth 100000 in
set_option maxHeartbeats 2000000 in
theorem refcmp_bad (na da nb db : Int) (h1 : In64 na) (h2 : In64 da) (h3 : In64 nb) (h4 : In64 db) (hb : rightB na da = false ∨ rightB nb db = false) (w : World) :
    Calls Tryz.prog 80 #[.agg #[.int .i64 na, .int .i64 da], .agg #[.int .i64 nb, .int .i64 db]] w fun e w' => e = .returned (.tuple #[.int .i64 0, .int .i64 1]) ∧ Below w.heap.size w w' := by
  have ca := refright_any na da h1 h2
  have cb := refright_any nb db h3 h4
  have hbx := box2 w #[.int .i64 na, .int .i64 da] #[.int .i64 nb, .int .i64 db] 23 23
  obtain ⟨ta, tb, hsz, hbw⟩ := hbx
  have TA := Lib.hid ta
  have TB := Lib.hid tb
  have HBW := Lib.hid hbw
  have HSZ := Lib.hid hsz
  clear ta tb hsz hbw
  cases ha : rightB na da
  · rw [ha] at ca
    clear cb hb
    go_enter Tryz.func80, Tryz.ntmps80
    go_wp2_with fail
    with_reducible refine (ca _).mono ?_
    rintro e w1 ⟨rfl, hb1⟩
    replace HBW := Lib.hid (bstep HBW.out hb1 (Nat.le_refl _))
    clear ca hb1
    go_wp2_with fail
    exact bodyPost_ret (v := .tuple #[.int .i64 0, .int .i64 1]) (by simp [results, Tryz.results80, go_sem]) rfl ⟨rfl, by first | exact HBW.out | exact below_set2 HBW.out (by omega) _ _⟩
  · have hb2 : rightB nb db = false := by rcases hb with h | h; · rw [ha] at h; cases h
                                          · exact h
    rw [ha] at ca
    rw [hb2] at cb
    clear hb
    go_enter Tryz.func80, Tryz.ntmps80
    go_wp2_with fail
    with_reducible refine (ca _).mono ?_
    rintro e w1 ⟨rfl, hb1⟩
    replace HBW := Lib.hid (bstep HBW.out hb1 (Nat.le_refl _))
    replace TB := Lib.hid (TB.out.keep hb1 (Nat.le_refl _))
    obtain ⟨x0, x1, _, _⟩ := TB.out.two
    clear ca hb1
    go_wp2_with fail
    with_reducible refine (cb _).mono ?_
    rintro e w2 ⟨rfl, hb1⟩
    replace HBW := Lib.hid (bstep HBW.out hb1 (Nat.le_refl _))
    clear cb hb1
    go_wp2_with fail
    exact bodyPost_ret (v := .tuple #[.int .i64 0, .int .i64 1]) (by simp [results, Tryz.results80, go_sem]) rfl ⟨rfl, by first | exact HBW.out | exact below_set2 HBW.out (by omega) _ _⟩


set_option maxRecDepth 100000 in
set_option maxHeartbeats 4000000 in
theorem refcmp_ok (na da nb db : Int) (ha : RightP na da) (hb : RightP nb db) (w : World) :
    Calls Tryz.prog 80 #[.agg #[.int .i64 na, .int .i64 da], .agg #[.int .i64 nb, .int .i64 db]] w fun e w' => e = .returned (refcmpV (cmpI na da nb db)) ∧ Below w.heap.size w w' := by
  obtain ⟨a1, a2, a3, a4, a5⟩ := ha
  obtain ⟨b1, b2, b3, b4, b5⟩ := hb
  have ra := (rightB_iff na da ⟨a3, a4⟩ ⟨by omega, by omega⟩).2 ⟨a1, a2, a3, a4, a5⟩
  have rb := (rightB_iff nb db ⟨b3, b4⟩ ⟨by omega, by omega⟩).2 ⟨b1, b2, b3, b4, b5⟩
  have ca := refright_any na da ⟨a3, a4⟩ ⟨by omega, by omega⟩
  have cb := refright_any nb db ⟨b3, b4⟩ ⟨by omega, by omega⟩
  rw [ra] at ca
  rw [rb] at cb
  have ofa := of_any na da ⟨a3, a4⟩ ⟨by omega, by omega⟩
  have ofb := of_any nb db ⟨b3, b4⟩ ⟨by omega, by omega⟩
  have k1 : na.natAbs < 18446744073709551616 := by omega
  have k2 : da.natAbs < 18446744073709551616 := by omega
  have k3 : nb.natAbs < 18446744073709551616 := by omega
  have k4 : db.natAbs < 18446744073709551616 := by omega
  have hval := refcmp_val (refsum_sgn na da nb db (by omega) (by omega))
  rw [hval]
  have hlen := sumF_len (decide (na < 0)) (!decide (nb < 0)) k1 k2 k3 k4
  have HLEN := Lib.hid (And.intro hlen (And.intro (And.intro k1 k2) (And.intro k3 k4)))
  obtain ⟨s, hs⟩ : ∃ s, s = sumF (decide (na < 0)) na.natAbs da.natAbs (!decide (nb < 0)) nb.natAbs db.natAbs := ⟨_, rfl⟩
  rw [← hs]
  have HS := Lib.hid hs
  obtain ⟨C, hC⟩ : ∃ C : Int, C = if s.2 = 0 then 0 else if s.1 then -1 else 1 := ⟨_, rfl⟩
  rw [← hC]
  have HC := Lib.hid hC
  clear hval hlen k1 k2 k3 k4 hs hC
  have hbx := box2 w #[.int .i64 na, .int .i64 da] #[.int .i64 nb, .int .i64 db] 23 23
  obtain ⟨ta, tb, hsz, hbw⟩ := hbx
  have TA := Lib.hid ta
  have TB := Lib.hid tb
  have HBW := Lib.hid hbw
  clear ta tb hsz hbw
  clear a1 a2 a3 a4 a5 b1 b2 b3 b4 b5 ra rb
  go_enter Tryz.func80, Tryz.ntmps80
  go_wp2_with fail
  with_reducible refine (ca _).mono ?_
  rintro e w1 ⟨rfl, hb1⟩
  replace HBW := Lib.hid (bstep HBW.out hb1 (Nat.le_refl _))
  replace TA := Lib.hid (TA.out.keep hb1 (Nat.le_refl _))
  replace TB := Lib.hid (TB.out.keep hb1 (Nat.le_refl _))
  obtain ⟨x0, x1, _, _⟩ := TB.out.two
  clear ca hb1
  go_wp2_with fail
  with_reducible refine (cb _).mono ?_
  rintro e w2 ⟨rfl, hb1⟩
  replace HBW := Lib.hid (bstep HBW.out hb1 (Nat.le_refl _))
  replace TA := Lib.hid (TA.out.keep hb1 (Nat.le_refl _))
  replace TB := Lib.hid (TB.out.keep hb1 (Nat.le_refl _))
  clear x0 x1 cb hb1
  obtain ⟨x0, x1, _, _⟩ := TA.out.two
  obtain ⟨y0, y1, _, _⟩ := TB.out.two
  go_wp2_with fail
  refine wp_region_held_drew (S := (fun (w' : World) => w'.cell? ⟨w.heap.size, 0, none⟩ = some (.int .i64 na) ∧ w'.cell? ⟨w.heap.size, 1, none⟩ = some (.int .i64 da) ∧ w'.cell? ⟨w.heap.size + 1, 0, none⟩ = some (.int .i64 nb) ∧ w'.cell? ⟨w.heap.size + 1, 1, none⟩ = some (.int .i64 db) ∧ Below w2.heap.size w2 w')) (by kernel_rfl) ⟨x0, x1, y0, y1, (Below.refl _ _).drew⟩ (fun hHeld => ?_)
  refine held_take 0 (v := ?_) rfl (by kernel_rfl) (by kernel_rfl) (by kernel_rfl) (fun _ _ _ h => h) (by assumption) ?_ ?_
  rotate_left
  · first | (refine Or.inr ⟨?_, ?_⟩ <;> rfl) | (refine Or.inl ⟨by rfl, ?_⟩; intro w hSw; (try dsimp only at hSw); first | (go_simp; done) | (go_simp; with_reducible rfl))
  try simp only [Act.put, List.setIfInBounds_toArray, List.set_cons_zero, List.set_cons_succ]
  refine held_take 2 (v := ?_) rfl (by kernel_rfl) (by kernel_rfl) (by kernel_rfl) (fun _ _ _ h => h) (by assumption) ?_ ?_
  rotate_left
  · first | (refine Or.inr ⟨?_, ?_⟩ <;> rfl) | (refine Or.inl ⟨by rfl, ?_⟩; intro w hSw; (try dsimp only at hSw); first | (go_simp; done) | (go_simp; with_reducible rfl))
  try simp only [Act.put, List.setIfInBounds_toArray, List.set_cons_zero, List.set_cons_succ]
  refine held_call2 1 6 rfl rfl (by kernel_rfl) (fun K hK => ?_) (fun K hK => ?_)
  · go_simp
    with_reducible refine (ofa _).mono ?_
    rintro e wA ⟨_, rfl, hf3, hbk⟩
    have hB := bstep hHeld.2.2.2.2 hbk (Nat.le_refl _)
    refine hK.out _ _ ⟨cell_keep' x0 hB, cell_keep' x1 hB, cell_keep' y0 hB, cell_keep' y1 hB, hB⟩ (fun hHeld => ?_)
    clear hK K hbk hB
    try simp only [Act.put, List.setIfInBounds_toArray, List.set_cons_zero, List.set_cons_succ]
    refine held_call2 3 6 rfl rfl (by kernel_rfl) (fun K hK => ?_) (fun K hK => ?_)
    · go_simp
      with_reducible refine (ofb _).mono ?_
      rintro e wB ⟨_, rfl, hf4, hbk⟩
      replace hf3 := hf3.keep hbk
      have hB := bstep hHeld.2.2.2.2 hbk (Nat.le_refl _)
      refine hK.out _ _ ⟨cell_keep' x0 hB, cell_keep' x1 hB, cell_keep' y0 hB, cell_keep' y1 hB, hB⟩ (fun hHeld => ?_)
      clear hK K hbk hB
      try simp only [Act.put, List.setIfInBounds_toArray, List.set_cons_zero, List.set_cons_succ]
      refine held_call2 4 6 rfl rfl (by kernel_rfl) (fun K hK => ?_) (fun K hK => ?_)
      · go_simp
        with_reducible refine (opposite_any _ _ _ _ _ hf4).mono ?_
        rintro e wC ⟨_, rfl, hf7, hbk⟩
        replace hf3 := hf3.keep hbk
        replace hf4 := hf4.keep hbk
        have hB := bstep hHeld.2.2.2.2 hbk (Nat.le_refl _)
        refine hK.out _ _ ⟨cell_keep' x0 hB, cell_keep' x1 hB, cell_keep' y0 hB, cell_keep' y1 hB, hB⟩ (fun hHeld => ?_)
        clear hK K hbk hB
        try simp only [Act.put, List.setIfInBounds_toArray, List.set_cons_zero, List.set_cons_succ]
        refine held_call2 5 6 rfl rfl (by kernel_rfl) (fun K hK => ?_) (fun K hK => ?_)
        · go_simp
          with_reducible refine (refsum_any _ _ _ _ _ _ (by have := digs64 HLEN.out.2.1.1; omega) (by have := digs64 HLEN.out.2.1.2; omega) (by have := digs64 HLEN.out.2.2.1; omega) (by have := digs64 HLEN.out.2.2.2; omega) _ _ _ hf3 hf7).mono ?_
          rw [← HS.out]
          rintro e wD ⟨_, rfl, ⟨_, _, rfl, ⟨an, cn, rfl, hsn⟩, ⟨ad, cd, rfl, hsd⟩⟩, hbk⟩
          replace hf3 := hf3.keep hbk
          replace hf4 := hf4.keep hbk
          replace hf7 := hf7.keep hbk
          have hB := bstep hHeld.2.2.2.2 hbk (Nat.le_refl _)
          refine hK.out _ _ ⟨cell_keep' x0 hB, cell_keep' x1 hB, cell_keep' y0 hB, cell_keep' y1 hB, hB⟩ (fun hHeld => ?_)
          clear hK K hbk hB
          try simp only [Act.put, List.setIfInBounds_toArray, List.set_cons_zero, List.set_cons_succ]
          refine held_call 6 rfl (by kernel_rfl) (fun K hK => ?_)
          go_simp
          obtain ⟨wE, hE, hbk, t6⟩ := alloc_one hHeld.2.2.2.2 #[.bool false, .slice none 0 0, .slice none 0 0] 60
          have hg6 := hHeld.2.2.2.2.size
          try change Blk wE w2.heap.size _ at t6
          try change w2.heap.size ≤ w2.heap.size at hg6
          first | rw [hE] | (have hE2 : (World.alloc w2 _).drew = wE := hE; rw [hE2])
          replace hf3 := hf3.keep hbk
          replace hf4 := hf4.keep hbk
          replace hf7 := hf7.keep hbk
          have hB := bstep hHeld.2.2.2.2 hbk (Nat.le_refl _)
          refine hK.out _ _ ⟨cell_keep' x0 hB, cell_keep' x1 hB, cell_keep' y0 hB, cell_keep' y1 hB, hB⟩ (fun hHeld => ?_)
          clear hK K hbk hB
          try simp only [Act.put, List.setIfInBounds_toArray, List.set_cons_zero, List.set_cons_succ]
          refine held_call 7 rfl (by kernel_rfl) (fun K hK => ?_)
          obtain ⟨q0, q1, q2, q3, q4, q5⟩ := t6.three
          have T6 := Lib.hid (t6.set3 (.bool s.1) (.slice an (digs s.2).length cn) (.slice ad (digs (da.natAbs * db.natAbs)).length cd))
          have HB := Lib.hid (below_set3 hHeld.2.2.2.2 hg6 (.bool s.1) (.slice an (digs s.2).length cn) (.slice ad (digs (da.natAbs * db.natAbs)).length cd))
          clear t6
          go_simp
          have hB := HB.out
          refine hK.out _ _ ⟨cell_keep' x0 hB, cell_keep' x1 hB, cell_keep' y0 hB, cell_keep' y1 hB, hB⟩ (fun hHeld => ?_)
          clear hK K hB hHeld
          try simp only [Act.put, List.setIfInBounds_toArray, List.set_cons_zero, List.set_cons_succ]
          refine wpAnyH_done (by kernel_rfl) ?_ _
          clear q0 q1 q2 q3 q4 q5 x0 x1 y0 y1
          have HB6 := Lib.hid (bstep HBW.out HB.out (Nat.le_refl _))
          obtain ⟨q0, q1, q2, _, _, _⟩ := T6.out.three
          have HC1 := Lib.hid HC.out
          clear hsn hsd HS HLEN HC hg6
          generalize s.1 = s1 at *
          generalize s.2 = s2 at *
          by_cases h0 : s2 = 0
          · have hl2 : (((digs s2).length : Int) == 0) = true := by rw [beq_iff_eq, h0, digs_zero]; rfl
            have HC2 := Lib.hid (HC1.out.trans (if_pos h0))
            clear h0 HC1
            go_wp2_with fail
            go_ret2
            exact ⟨by rw [HC2.out]; rfl, HB6.out⟩
          · have hl : ¬ (digs s2).length = 0 := by rw [List.length_eq_zero_iff, digs_nil]; exact h0
            have hl2 : (((digs s2).length : Int) == 0) = false := by rw [beq_eq_false_iff_ne]; omega
            have HC2 := Lib.hid (HC1.out.trans (if_neg h0))
            clear h0 hl HC1
            cases s1
            · go_wp2_with fail
              go_ret2
              exact ⟨by rw [HC2.out]; rfl, HB6.out⟩
            · go_wp2_with fail
              go_ret2
              exact ⟨by rw [HC2.out]; rfl, HB6.out⟩
        · go_simp
          obtain ⟨wE, hE, hbk, t6⟩ := alloc_one hHeld.2.2.2.2 #[.bool false, .slice none 0 0, .slice none 0 0] 60
          have hg6 := hHeld.2.2.2.2.size
          try change Blk wE w2.heap.size _ at t6
          try change w2.heap.size ≤ w2.heap.size at hg6
          first | rw [hE] | (have hE2 : (World.alloc w2 _).drew = wE := hE; rw [hE2])
          replace hf3 := hf3.keep hbk
          replace hf4 := hf4.keep hbk
          replace hf7 := hf7.keep hbk
          have hB := bstep hHeld.2.2.2.2 hbk (Nat.le_refl _)
          refine hK.out _ _ ⟨cell_keep' x0 hB, cell_keep' x1 hB, cell_keep' y0 hB, cell_keep' y1 hB, hB⟩ (fun hHeld => ?_)
          clear hK K hbk hB
          try simp only [Act.put, List.setIfInBounds_toArray, List.set_cons_zero, List.set_cons_succ]
          refine held_call 5 rfl (by kernel_rfl) (fun K hK => ?_)
          go_simp
          with_reducible refine (refsum_any _ _ _ _ _ _ (by have := digs64 HLEN.out.2.1.1; omega) (by have := digs64 HLEN.out.2.1.2; omega) (by have := digs64 HLEN.out.2.2.1; omega) (by have := digs64 HLEN.out.2.2.2; omega) _ _ _ hf3 hf7).mono ?_
          rw [← HS.out]
          rintro e wD ⟨_, rfl, ⟨_, _, rfl, ⟨an, cn, rfl, hsn⟩, ⟨ad, cd, rfl, hsd⟩⟩, hbk⟩
          replace hf3 := hf3.keep hbk
          replace hf4 := hf4.keep hbk
          replace hf7 := hf7.keep hbk
          replace t6 := t6.keep hbk (Nat.le_refl _)
          have hB := bstep hHeld.2.2.2.2 hbk (Nat.le_refl _)
          refine hK.out _ _ ⟨cell_keep' x0 hB, cell_keep' x1 hB, cell_keep' y0 hB, cell_keep' y1 hB, hB⟩ (fun hHeld => ?_)
          clear hK K hbk hB
          try simp only [Act.put, List.setIfInBounds_toArray, List.set_cons_zero, List.set_cons_succ]
          refine held_call 7 rfl (by kernel_rfl) (fun K hK => ?_)
          obtain ⟨q0, q1, q2, q3, q4, q5⟩ := t6.three
          have T6 := Lib.hid (t6.set3 (.bool s.1) (.slice an (digs s.2).length cn) (.slice ad (digs (da.natAbs * db.natAbs)).length cd))
          have HB := Lib.hid (below_set3 hHeld.2.2.2.2 hg6 (.bool s.1) (.slice an (digs s.2).length cn) (.slice ad (digs (da.natAbs * db.natAbs)).length cd))
          clear t6
          go_simp
          have hB := HB.out
          refine hK.out _ _ ⟨cell_keep' x0 hB, cell_keep' x1 hB, cell_keep' y0 hB, cell_keep' y1 hB, hB⟩ (fun hHeld => ?_)
          clear hK K hB hHeld
          try simp only [Act.put, List.setIfInBounds_toArray, List.set_cons_zero, List.set_cons_succ]
          refine wpAnyH_done (by kernel_rfl) ?_ _
          clear q0 q1 q2 q3 q4 q5 x0 x1 y0 y1
          have HB6 := Lib.hid (bstep HBW.out HB.out (Nat.le_refl _))
          obtain ⟨q0, q1, q2, _, _, _⟩ := T6.out.three
          have HC1 := Lib.hid HC.out
          clear hsn hsd HS HLEN HC hg6
          generalize s.1 = s1 at *
          generalize s.2 = s2 at *
          by_cases h0 : s2 = 0
          · have hl2 : (((digs s2).length : Int) == 0) = true := by rw [beq_iff_eq, h0, digs_zero]; rfl
            have HC2 := Lib.hid (HC1.out.trans (if_pos h0))
            clear h0 HC1
            go_wp2_with fail
            go_ret2
            exact ⟨by rw [HC2.out]; rfl, HB6.out⟩
          · have hl : ¬ (digs s2).length = 0 := by rw [List.length_eq_zero_iff, digs_nil]; exact h0
            have hl2 : (((digs s2).length : Int) == 0) = false := by rw [beq_eq_false_iff_ne]; omega
            have HC2 := Lib.hid (HC1.out.trans (if_neg h0))
            clear h0 hl HC1
            cases s1
            · go_wp2_with fail
              go_ret2
              exact ⟨by rw [HC2.out]; rfl, HB6.out⟩
            · go_wp2_with fail
              go_ret2
              exact ⟨by rw [HC2.out]; rfl, HB6.out⟩
      · go_simp
        obtain ⟨wE, hE, hbk, t6⟩ := alloc_one hHeld.2.2.2.2 #[.bool false, .slice none 0 0, .slice none 0 0] 60
        have hg6 := hHeld.2.2.2.2.size
        try change Blk wE w2.heap.size _ at t6
        try change w2.heap.size ≤ w2.heap.size at hg6
        first | rw [hE] | (have hE2 : (World.alloc w2 _).drew = wE := hE; rw [hE2])
        replace hf3 := hf3.keep hbk
        replace hf4 := hf4.keep hbk
        have hB := bstep hHeld.2.2.2.2 hbk (Nat.le_refl _)
        refine hK.out _ _ ⟨cell_keep' x0 hB, cell_keep' x1 hB, cell_keep' y0 hB, cell_keep' y1 hB, hB⟩ (fun hHeld => ?_)
        clear hK K hbk hB
        try simp only [Act.put, List.setIfInBounds_toArray, List.set_cons_zero, List.set_cons_succ]
        refine held_call 4 rfl (by kernel_rfl) (fun K hK => ?_)
        go_simp
        with_reducible refine (opposite_any _ _ _ _ _ hf4).mono ?_
        rintro e wC ⟨_, rfl, hf7, hbk⟩
        replace hf3 := hf3.keep hbk
        replace hf4 := hf4.keep hbk
        replace t6 := t6.keep hbk (Nat.le_refl _)
        have hB := bstep hHeld.2.2.2.2 hbk (Nat.le_refl _)
        refine hK.out _ _ ⟨cell_keep' x0 hB, cell_keep' x1 hB, cell_keep' y0 hB, cell_keep' y1 hB, hB⟩ (fun hHeld => ?_)
        clear hK K hbk hB
        try simp only [Act.put, List.setIfInBounds_toArray, List.set_cons_zero, List.set_cons_succ]
        refine held_call 5 rfl (by kernel_rfl) (fun K hK => ?_)
        go_simp
        with_reducible refine (refsum_any _ _ _ _ _ _ (by have := digs64 HLEN.out.2.1.1; omega) (by have := digs64 HLEN.out.2.1.2; omega) (by have := digs64 HLEN.out.2.2.1; omega) (by have := digs64 HLEN.out.2.2.2; omega) _ _ _ hf3 hf7).mono ?_
        rw [← HS.out]
        rintro e wD ⟨_, rfl, ⟨_, _, rfl, ⟨an, cn, rfl, hsn⟩, ⟨ad, cd, rfl, hsd⟩⟩, hbk⟩
        replace hf3 := hf3.keep hbk
        replace hf4 := hf4.keep hbk
        replace t6 := t6.keep hbk (Nat.le_refl _)
        replace hf7 := hf7.keep hbk
        have hB := bstep hHeld.2.2.2.2 hbk (Nat.le_refl _)
        refine hK.out _ _ ⟨cell_keep' x0 hB, cell_keep' x1 hB, cell_keep' y0 hB, cell_keep' y1 hB, hB⟩ (fun hHeld => ?_)
        clear hK K hbk hB
        try simp only [Act.put, List.setIfInBounds_toArray, List.set_cons_zero, List.set_cons_succ]
        refine held_call 7 rfl (by kernel_rfl) (fun K hK => ?_)
        obtain ⟨q0, q1, q2, q3, q4, q5⟩ := t6.three
        have T6 := Lib.hid (t6.set3 (.bool s.1) (.slice an (digs s.2).length cn) (.slice ad (digs (da.natAbs * db.natAbs)).length cd))
        have HB := Lib.hid (below_set3 hHeld.2.2.2.2 hg6 (.bool s.1) (.slice an (digs s.2).length cn) (.slice ad (digs (da.natAbs * db.natAbs)).length cd))
        clear t6
        go_simp
        have hB := HB.out
        refine hK.out _ _ ⟨cell_keep' x0 hB, cell_keep' x1 hB, cell_keep' y0 hB, cell_keep' y1 hB, hB⟩ (fun hHeld => ?_)
        clear hK K hB hHeld
        try simp only [Act.put, List.setIfInBounds_toArray, List.set_cons_zero, List.set_cons_succ]
        refine wpAnyH_done (by kernel_rfl) ?_ _
        clear q0 q1 q2 q3 q4 q5 x0 x1 y0 y1
        have HB6 := Lib.hid (bstep HBW.out HB.out (Nat.le_refl _))
        obtain ⟨q0, q1, q2, _, _, _⟩ := T6.out.three
        have HC1 := Lib.hid HC.out
        clear hsn hsd HS HLEN HC hg6
        generalize s.1 = s1 at *
        generalize s.2 = s2 at *
        by_cases h0 : s2 = 0
        · have hl2 : (((digs s2).length : Int) == 0) = true := by rw [beq_iff_eq, h0, digs_zero]; rfl
          have HC2 := Lib.hid (HC1.out.trans (if_pos h0))
          clear h0 HC1
          go_wp2_with fail
          go_ret2
          exact ⟨by rw [HC2.out]; rfl, HB6.out⟩
        · have hl : ¬ (digs s2).length = 0 := by rw [List.length_eq_zero_iff, digs_nil]; exact h0
          have hl2 : (((digs s2).length : Int) == 0) = false := by rw [beq_eq_false_iff_ne]; omega
          have HC2 := Lib.hid (HC1.out.trans (if_neg h0))
          clear h0 hl HC1
          cases s1
          · go_wp2_with fail
            go_ret2
            exact ⟨by rw [HC2.out]; rfl, HB6.out⟩
          · go_wp2_with fail
            go_ret2
            exact ⟨by rw [HC2.out]; rfl, HB6.out⟩
    · go_simp
      obtain ⟨wE, hE, hbk, t6⟩ := alloc_one hHeld.2.2.2.2 #[.bool false, .slice none 0 0, .slice none 0 0] 60
      have hg6 := hHeld.2.2.2.2.size
      try change Blk wE w2.heap.size _ at t6
      try change w2.heap.size ≤ w2.heap.size at hg6
      first | rw [hE] | (have hE2 : (World.alloc w2 _).drew = wE := hE; rw [hE2])
      replace hf3 := hf3.keep hbk
      have hB := bstep hHeld.2.2.2.2 hbk (Nat.le_refl _)
      refine hK.out _ _ ⟨cell_keep' x0 hB, cell_keep' x1 hB, cell_keep' y0 hB, cell_keep' y1 hB, hB⟩ (fun hHeld => ?_)
      clear hK K hbk hB
      try simp only [Act.put, List.setIfInBounds_toArray, List.set_cons_zero, List.set_cons_succ]
      refine held_call 3 rfl (by kernel_rfl) (fun K hK => ?_)
      go_simp
      with_reducible refine (ofb _).mono ?_
      rintro e wB ⟨_, rfl, hf4, hbk⟩
      replace hf3 := hf3.keep hbk
      replace t6 := t6.keep hbk (Nat.le_refl _)
      have hB := bstep hHeld.2.2.2.2 hbk (Nat.le_refl _)
      refine hK.out _ _ ⟨cell_keep' x0 hB, cell_keep' x1 hB, cell_keep' y0 hB, cell_keep' y1 hB, hB⟩ (fun hHeld => ?_)
      clear hK K hbk hB
      try simp only [Act.put, List.setIfInBounds_toArray, List.set_cons_zero, List.set_cons_succ]
      refine held_call 4 rfl (by kernel_rfl) (fun K hK => ?_)
      go_simp
      with_reducible refine (opposite_any _ _ _ _ _ hf4).mono ?_
      rintro e wC ⟨_, rfl, hf7, hbk⟩
      replace hf3 := hf3.keep hbk
      replace t6 := t6.keep hbk (Nat.le_refl _)
      replace hf4 := hf4.keep hbk
      have hB := bstep hHeld.2.2.2.2 hbk (Nat.le_refl _)
      refine hK.out _ _ ⟨cell_keep' x0 hB, cell_keep' x1 hB, cell_keep' y0 hB, cell_keep' y1 hB, hB⟩ (fun hHeld => ?_)
      clear hK K hbk hB
      try simp only [Act.put, List.setIfInBounds_toArray, List.set_cons_zero, List.set_cons_succ]
      refine held_call 5 rfl (by kernel_rfl) (fun K hK => ?_)
      go_simp
      with_reducible refine (refsum_any _ _ _ _ _ _ (by have := digs64 HLEN.out.2.1.1; omega) (by have := digs64 HLEN.out.2.1.2; omega) (by have := digs64 HLEN.out.2.2.1; omega) (by have := digs64 HLEN.out.2.2.2; omega) _ _ _ hf3 hf7).mono ?_
      rw [← HS.out]
      rintro e wD ⟨_, rfl, ⟨_, _, rfl, ⟨an, cn, rfl, hsn⟩, ⟨ad, cd, rfl, hsd⟩⟩, hbk⟩
      replace hf3 := hf3.keep hbk
      replace t6 := t6.keep hbk (Nat.le_refl _)
      replace hf4 := hf4.keep hbk
      replace hf7 := hf7.keep hbk
      have hB := bstep hHeld.2.2.2.2 hbk (Nat.le_refl _)
      refine hK.out _ _ ⟨cell_keep' x0 hB, cell_keep' x1 hB, cell_keep' y0 hB, cell_keep' y1 hB, hB⟩ (fun hHeld => ?_)
      clear hK K hbk hB
      try simp only [Act.put, List.setIfInBounds_toArray, List.set_cons_zero, List.set_cons_succ]
      refine held_call 7 rfl (by kernel_rfl) (fun K hK => ?_)
      obtain ⟨q0, q1, q2, q3, q4, q5⟩ := t6.three
      have T6 := Lib.hid (t6.set3 (.bool s.1) (.slice an (digs s.2).length cn) (.slice ad (digs (da.natAbs * db.natAbs)).length cd))
      have HB := Lib.hid (below_set3 hHeld.2.2.2.2 hg6 (.bool s.1) (.slice an (digs s.2).length cn) (.slice ad (digs (da.natAbs * db.natAbs)).length cd))
      clear t6
      go_simp
      have hB := HB.out
      refine hK.out _ _ ⟨cell_keep' x0 hB, cell_keep' x1 hB, cell_keep' y0 hB, cell_keep' y1 hB, hB⟩ (fun hHeld => ?_)
      clear hK K hB hHeld
      try simp only [Act.put, List.setIfInBounds_toArray, List.set_cons_zero, List.set_cons_succ]
      refine wpAnyH_done (by kernel_rfl) ?_ _
      clear q0 q1 q2 q3 q4 q5 x0 x1 y0 y1
      have HB6 := Lib.hid (bstep HBW.out HB.out (Nat.le_refl _))
      obtain ⟨q0, q1, q2, _, _, _⟩ := T6.out.three
      have HC1 := Lib.hid HC.out
      clear hsn hsd HS HLEN HC hg6
      generalize s.1 = s1 at *
      generalize s.2 = s2 at *
      by_cases h0 : s2 = 0
      · have hl2 : (((digs s2).length : Int) == 0) = true := by rw [beq_iff_eq, h0, digs_zero]; rfl
        have HC2 := Lib.hid (HC1.out.trans (if_pos h0))
        clear h0 HC1
        go_wp2_with fail
        go_ret2
        exact ⟨by rw [HC2.out]; rfl, HB6.out⟩
      · have hl : ¬ (digs s2).length = 0 := by rw [List.length_eq_zero_iff, digs_nil]; exact h0
        have hl2 : (((digs s2).length : Int) == 0) = false := by rw [beq_eq_false_iff_ne]; omega
        have HC2 := Lib.hid (HC1.out.trans (if_neg h0))
        clear h0 hl HC1
        cases s1
        · go_wp2_with fail
          go_ret2
          exact ⟨by rw [HC2.out]; rfl, HB6.out⟩
        · go_wp2_with fail
          go_ret2
          exact ⟨by rw [HC2.out]; rfl, HB6.out⟩
  · go_simp
    obtain ⟨wE, hE, hbk, t6⟩ := alloc_one hHeld.2.2.2.2 #[.bool false, .slice none 0 0, .slice none 0 0] 60
    have hg6 := hHeld.2.2.2.2.size
    try change Blk wE w2.heap.size _ at t6
    try change w2.heap.size ≤ w2.heap.size at hg6
    first | rw [hE] | (have hE2 : (World.alloc w2 _).drew = wE := hE; rw [hE2])
    have hB := bstep hHeld.2.2.2.2 hbk (Nat.le_refl _)
    refine hK.out _ _ ⟨cell_keep' x0 hB, cell_keep' x1 hB, cell_keep' y0 hB, cell_keep' y1 hB, hB⟩ (fun hHeld => ?_)
    clear hK K hbk hB
    try simp only [Act.put, List.setIfInBounds_toArray, List.set_cons_zero, List.set_cons_succ]
    refine held_call 1 rfl (by kernel_rfl) (fun K hK => ?_)
    go_simp
    with_reducible refine (ofa _).mono ?_
    rintro e wA ⟨_, rfl, hf3, hbk⟩
    replace t6 := t6.keep hbk (Nat.le_refl _)
    have hB := bstep hHeld.2.2.2.2 hbk (Nat.le_refl _)
    refine hK.out _ _ ⟨cell_keep' x0 hB, cell_keep' x1 hB, cell_keep' y0 hB, cell_keep' y1 hB, hB⟩ (fun hHeld => ?_)
    clear hK K hbk hB
    try simp only [Act.put, List.setIfInBounds_toArray, List.set_cons_zero, List.set_cons_succ]
    refine held_call 3 rfl (by kernel_rfl) (fun K hK => ?_)
    go_simp
    with_reducible refine (ofb _).mono ?_
    rintro e wB ⟨_, rfl, hf4, hbk⟩
    replace t6 := t6.keep hbk (Nat.le_refl _)
    replace hf3 := hf3.keep hbk
    have hB := bstep hHeld.2.2.2.2 hbk (Nat.le_refl _)
    refine hK.out _ _ ⟨cell_keep' x0 hB, cell_keep' x1 hB, cell_keep' y0 hB, cell_keep' y1 hB, hB⟩ (fun hHeld => ?_)
    clear hK K hbk hB
    try simp only [Act.put, List.setIfInBounds_toArray, List.set_cons_zero, List.set_cons_succ]
    refine held_call 4 rfl (by kernel_rfl) (fun K hK => ?_)
    go_simp
    with_reducible refine (opposite_any _ _ _ _ _ hf4).mono ?_
    rintro e wC ⟨_, rfl, hf7, hbk⟩
    replace t6 := t6.keep hbk (Nat.le_refl _)
    replace hf3 := hf3.keep hbk
    replace hf4 := hf4.keep hbk
    have hB := bstep hHeld.2.2.2.2 hbk (Nat.le_refl _)
    refine hK.out _ _ ⟨cell_keep' x0 hB, cell_keep' x1 hB, cell_keep' y0 hB, cell_keep' y1 hB, hB⟩ (fun hHeld => ?_)
    clear hK K hbk hB
    try simp only [Act.put, List.setIfInBounds_toArray, List.set_cons_zero, List.set_cons_succ]
    refine held_call 5 rfl (by kernel_rfl) (fun K hK => ?_)
    go_simp
    with_reducible refine (refsum_any _ _ _ _ _ _ (by have := digs64 HLEN.out.2.1.1; omega) (by have := digs64 HLEN.out.2.1.2; omega) (by have := digs64 HLEN.out.2.2.1; omega) (by have := digs64 HLEN.out.2.2.2; omega) _ _ _ hf3 hf7).mono ?_
    rw [← HS.out]
    rintro e wD ⟨_, rfl, ⟨_, _, rfl, ⟨an, cn, rfl, hsn⟩, ⟨ad, cd, rfl, hsd⟩⟩, hbk⟩
    replace t6 := t6.keep hbk (Nat.le_refl _)
    replace hf3 := hf3.keep hbk
    replace hf4 := hf4.keep hbk
    replace hf7 := hf7.keep hbk
    have hB := bstep hHeld.2.2.2.2 hbk (Nat.le_refl _)
    refine hK.out _ _ ⟨cell_keep' x0 hB, cell_keep' x1 hB, cell_keep' y0 hB, cell_keep' y1 hB, hB⟩ (fun hHeld => ?_)
    clear hK K hbk hB
    try simp only [Act.put, List.setIfInBounds_toArray, List.set_cons_zero, List.set_cons_succ]
    refine held_call 7 rfl (by kernel_rfl) (fun K hK => ?_)
    obtain ⟨q0, q1, q2, q3, q4, q5⟩ := t6.three
    have T6 := Lib.hid (t6.set3 (.bool s.1) (.slice an (digs s.2).length cn) (.slice ad (digs (da.natAbs * db.natAbs)).length cd))
    have HB := Lib.hid (below_set3 hHeld.2.2.2.2 hg6 (.bool s.1) (.slice an (digs s.2).length cn) (.slice ad (digs (da.natAbs * db.natAbs)).length cd))
    clear t6
    go_simp
    have hB := HB.out
    refine hK.out _ _ ⟨cell_keep' x0 hB, cell_keep' x1 hB, cell_keep' y0 hB, cell_keep' y1 hB, hB⟩ (fun hHeld => ?_)
    clear hK K hB hHeld
    try simp only [Act.put, List.setIfInBounds_toArray, List.set_cons_zero, List.set_cons_succ]
    refine wpAnyH_done (by kernel_rfl) ?_ _
    clear q0 q1 q2 q3 q4 q5 x0 x1 y0 y1
    have HB6 := Lib.hid (bstep HBW.out HB.out (Nat.le_refl _))
    obtain ⟨q0, q1, q2, _, _, _⟩ := T6.out.three
    have HC1 := Lib.hid HC.out
    clear hsn hsd HS HLEN HC hg6
    generalize s.1 = s1 at *
    generalize s.2 = s2 at *
    by_cases h0 : s2 = 0
    · have hl2 : (((digs s2).length : Int) == 0) = true := by rw [beq_iff_eq, h0, digs_zero]; rfl
      have HC2 := Lib.hid (HC1.out.trans (if_pos h0))
      clear h0 HC1
      go_wp2_with fail
      go_ret2
      exact ⟨by rw [HC2.out]; rfl, HB6.out⟩
    · have hl : ¬ (digs s2).length = 0 := by rw [List.length_eq_zero_iff, digs_nil]; exact h0
      have hl2 : (((digs s2).length : Int) == 0) = false := by rw [beq_eq_false_iff_ne]; omega
      have HC2 := Lib.hid (HC1.out.trans (if_neg h0))
      clear h0 hl HC1
      cases s1
      · go_wp2_with fail
        go_ret2
        exact ⟨by rw [HC2.out]; rfl, HB6.out⟩
      · go_wp2_with fail
        go_ret2
        exact ⟨by rw [HC2.out]; rfl, HB6.out⟩

theorem refcmp_any (na da nb db : Int) (h1 : In64 na) (h2 : In64 da) (h3 : In64 nb) (h4 : In64 db) (w : World) :
    Calls Tryz.prog 80 #[.agg #[.int .i64 na, .int .i64 da], .agg #[.int .i64 nb, .int .i64 db]] w fun e w' =>
      e = .returned (if rightB na da && rightB nb db then refcmpV (cmpI na da nb db) else refargC) ∧ Below w.heap.size w w' := by
  cases ha : rightB na da
  · exact refcmp_bad na da nb db h1 h2 h3 h4 (.inl ha) w
  · cases hb : rightB nb db
    · exact refcmp_bad na da nb db h1 h2 h3 h4 (.inr hb) w
    · exact refcmp_ok na da nb db ((rightB_iff na da h1 h2).1 ha) ((rightB_iff nb db h3 h4).1 hb) w
end Go.Proofs.YtajebceanonalaaGreatDoor

namespace Go.Proofs.YtajebceanonalaaGreatDoor
set_option linter.unusedVariables false
open Go.RowKit
theorem ret_two {a b : Int} (h : a = b) : Ending.returned (.tuple #[.int .i64 a, .int .i64 0]) = .returned (.tuple #[.int .i64 b, .int .i64 0]) := by rw [h]

set_option maxRecDepth 100000 in
set_option maxHeartbeats 4000000 in
theorem refround_any (n d : Int) (h1 : In64 n) (h2 : In64 d) (w : World) :
    Calls Tryz.prog 81 #[.agg #[.int .i64 n, .int .i64 d]] w fun e w' =>
      e = .returned (if rightB n d then .tuple #[.int .i64 (roundI n d), .int .i64 0] else .tuple #[.int .i64 0, .int .i64 1]) ∧ Below w.heap.size w w' := by
  have ca := refright_any n d h1 h2
  have hbx := box1 w #[.int .i64 n, .int .i64 d] 23
  obtain ⟨ta, hsz, hbw⟩ := hbx
  have TA := Lib.hid ta
  have HBW := Lib.hid hbw
  clear ta hsz hbw
  cases hr : rightB n d
  · rw [hr] at ca
    go_enter Tryz.func81, Tryz.ntmps81
    go_wp2_with fail
    with_reducible refine (ca _).mono ?_
    rintro e w1 ⟨rfl, hb1⟩
    have HW1 := Lib.hid (bstep HBW.out hb1 (Nat.le_refl _))
    clear hb1 ca
    go_wp2_with fail
    go_ret2
    exact ⟨rfl, HW1.out⟩
  · rw [hr] at ca
    obtain ⟨a1, a2, a3, a4, a5⟩ := (rightB_iff n d h1 h2).1 hr
    have ofa := of_any n d h1 h2
    have k1 : n.natAbs < 18446744073709551616 := by omega
    have k2 : d.natAbs < 18446744073709551616 := by omega
    have HP := Lib.hid (show 0 < 2 * d.natAbs by omega)
    have hle1 := round_le n.natAbs d.natAbs 9223372036854775808 (by omega) (by omega)
    have hle2 : 0 ≤ n → roundN n.natAbs d.natAbs ≤ 9223372036854775807 := fun h => round_le n.natAbs d.natAbs _ (by omega) (by omega)
    obtain ⟨R, hR⟩ : ∃ R, R = roundI n d := ⟨_, rfl⟩
    rw [if_pos rfl, ← hR]
    unfold roundI roundN at *
    generalize n.natAbs = A at *
    generalize d.natAbs = D at *
    have L1 : (digs (2 * A)).length ≤ 1000000 := Nat.le_trans ((digs_len _ 3).2 (by rw [show (4294967296 : Nat) ^ 3 = 79228162514264337593543950336 by decide +kernel]; omega)) (by decide)
    have L2 : (digs D).length ≤ 1000000 := Nat.le_trans ((digs_len _ 3).2 (by rw [show (4294967296 : Nat) ^ 3 = 79228162514264337593543950336 by decide +kernel]; omega)) (by decide)
    have L3 : (digs (2 * A + D)).length ≤ 100000 := Nat.le_trans ((digs_len _ 3).2 (by rw [show (4294967296 : Nat) ^ 3 = 79228162514264337593543950336 by decide +kernel]; omega)) (by decide)
    have L4 : (digs (2 * D)).length ≤ 100000 := Nat.le_trans ((digs_len _ 3).2 (by rw [show (4294967296 : Nat) ^ 3 = 79228162514264337593543950336 by decide +kernel]; omega)) (by decide)
    have LA : (digs A).length ≤ 100000 := by have := digs64 k1; omega
    have LD : (digs D).length ≤ 100000 := by have := digs64 k2; omega
    have LT : (digs 2).length ≤ 100000 := by have := digs64 (n := 2) (by decide); omega
    clear a1 a2 a3 a4 a5 h1 h2 k1 k2 hr
    have HR := Lib.hid hR
    have HLE := Lib.hid (And.intro hle1 hle2)
    clear hR hle1 hle2
    go_enter Tryz.func81, Tryz.ntmps81
    go_wp2_with fail
    with_reducible refine (ca _).mono ?_
    rintro e w1 ⟨rfl, hb1⟩
    replace HBW := Lib.hid (bstep HBW.out hb1 (Nat.le_refl _))
    obtain ⟨x0, x1, _, _⟩ := (TA.out.keep hb1 (Nat.le_refl _)).two
    clear ca hb1
    go_wp2_with fail
    with_reducible refine (ofa _).mono ?_
    rintro e w3 ⟨_, rfl, ⟨_, _, rfl, ⟨aa, cA, rfl, hsa⟩, ⟨ad, cD, rfl, hsd⟩⟩, hb1⟩
    replace HBW := Lib.hid (bstep HBW.out hb1 (Nat.le_refl _))
    clear ofa hb1 x0 x1
    obtain ⟨t4, hsz4, hb4⟩ := box1 w3 #[.bool (decide (n < 0)), .slice aa (digs A).length cA, .slice ad (digs D).length cD] 60
    replace HBW := Lib.hid (bstep HBW.out hb4 (Nat.le_refl _))
    have HA := Lib.hid (hsa.keep hb4 (Nat.le_refl _))
    have HD := Lib.hid (hsd.keep hb4 (Nat.le_refl _))
    have T4 := Lib.hid t4
    clear hsz4 hb4 hsa hsd t4
    go_wp2_with fail
    have cf : ∀ w, Calls Tryz.prog 26 #[.int .u64 2] w (RetNat w 2) := fun w => from_any 2 (by decide) w
    with_reducible refine (cf _).mono ?_
    clear cf
    rintro e W ⟨_, rfl, ⟨a2, c2, rfl, hs2⟩, _, hb1⟩
    replace HBW := Lib.hid (bstep HBW.out hb1 (Nat.le_refl _))
    replace HA := Lib.hid (HA.out.keep hb1 (Nat.le_refl _))
    replace HD := Lib.hid (HD.out.keep hb1 (Nat.le_refl _))
    replace T4 := Lib.hid (T4.out.keep hb1 (Nat.le_refl _))
    have H2 := Lib.hid hs2
    clear hb1 hs2
    go_wp2_with fail
    generalize w3.heap.size = g4 at *
    have c1 := fun w' (h : Below W.heap.size W w') => times_any 2 A a2 aa c2 cA LT LA w' (H2.out.keep h (Nat.le_refl _)) (HA.out.keep h (Nat.le_refl _))
    have c2 := fun w' (h : Below W.heap.size W w') => times_any 2 D a2 ad c2 cD LT LD w' (H2.out.keep h (Nat.le_refl _)) (HD.out.keep h (Nat.le_refl _))
    have cP := fun w' a5 c5 (h5 : SlD w' a5 c5 (digs (2 * A))) (h : Below W.heap.size W w') => plus_any (2 * A) D a5 ad c5 cD L1 L2 w' h5 (HD.out.keep h (Nat.le_refl _))
    obtain ⟨x0, x1, x2, _, _, _⟩ := T4.out.three
    generalize (digs 2).length = l2 at *
    generalize (digs A).length = la at *
    generalize hld : (digs D).length = ld at *
    have HLD := Lib.hid hld
    clear hld
    refine wp_region_held_drew (S := (fun (w' : World) => w'.cell? ⟨g4, 0, none⟩ = some (.bool (decide (n < 0))) ∧ w'.cell? ⟨g4, 1, none⟩ = some (.slice aa la cA) ∧ w'.cell? ⟨g4, 2, none⟩ = some (.slice ad ld cD) ∧ Below W.heap.size W w')) (by kernel_rfl) ⟨x0, x1, x2, (Below.refl _ _).drew⟩ (fun hHeld => ?_)
    refine held_take 0 (v := ?_) rfl (by kernel_rfl) (by kernel_rfl) (by kernel_rfl) (fun _ _ _ h => h) (by assumption) ?_ ?_
    rotate_left
    · first | (refine Or.inr ⟨?_, ?_⟩ <;> rfl) | (refine Or.inl ⟨by rfl, ?_⟩; intro w hSw; (try dsimp only at hSw); first | (go_simp; done) | (go_simp; with_reducible rfl))
    try simp only [Act.put, List.setIfInBounds_toArray, List.set_cons_zero, List.set_cons_succ]
    refine held_take 1 (v := ?_) rfl (by kernel_rfl) (by kernel_rfl) (by kernel_rfl) (fun _ _ _ h => h) (by assumption) ?_ ?_
    rotate_left
    · first | (refine Or.inr ⟨?_, ?_⟩ <;> rfl) | (refine Or.inl ⟨by rfl, ?_⟩; intro w hSw; (try dsimp only at hSw); first | (go_simp; done) | (go_simp; with_reducible rfl))
    try simp only [Act.put, List.setIfInBounds_toArray, List.set_cons_zero, List.set_cons_succ]
    refine held_take 2 (v := ?_) rfl (by kernel_rfl) (by kernel_rfl) (by kernel_rfl) (fun _ _ _ h => h) (by assumption) ?_ ?_
    rotate_left
    · first | (refine Or.inr ⟨?_, ?_⟩ <;> rfl) | (refine Or.inl ⟨by rfl, ?_⟩; intro w hSw; (try dsimp only at hSw); first | (go_simp; done) | (go_simp; with_reducible rfl))
    try simp only [Act.put, List.setIfInBounds_toArray, List.set_cons_zero, List.set_cons_succ]
    refine held_take 4 (v := ?_) rfl (by kernel_rfl) (by kernel_rfl) (by kernel_rfl) (fun _ _ _ h => h) (by assumption) ?_ ?_
    rotate_left
    · first | (refine Or.inr ⟨?_, ?_⟩ <;> rfl) | (refine Or.inl ⟨by rfl, ?_⟩; intro w hSw; (try dsimp only at hSw); first | (go_simp; done) | (go_simp; with_reducible rfl))
    try simp only [Act.put, List.setIfInBounds_toArray, List.set_cons_zero, List.set_cons_succ]
    refine held_take 5 (v := ?_) rfl (by kernel_rfl) (by kernel_rfl) (by kernel_rfl) (fun _ _ _ h => h) (by assumption) ?_ ?_
    rotate_left
    · first | (refine Or.inr ⟨?_, ?_⟩ <;> rfl) | (refine Or.inl ⟨by rfl, ?_⟩; intro w hSw; (try dsimp only at hSw); first | (go_simp; done) | (go_simp; with_reducible rfl))
    try simp only [Act.put, List.setIfInBounds_toArray, List.set_cons_zero, List.set_cons_succ]
    refine held_take 7 (v := ?_) rfl (by kernel_rfl) (by kernel_rfl) (by kernel_rfl) (fun _ _ _ h => h) (by assumption) ?_ ?_
    rotate_left
    · first | (refine Or.inr ⟨?_, ?_⟩ <;> rfl) | (refine Or.inl ⟨by rfl, ?_⟩; intro w hSw; (try dsimp only at hSw); first | (go_simp; done) | (go_simp; with_reducible rfl))
    try simp only [Act.put, List.setIfInBounds_toArray, List.set_cons_zero, List.set_cons_succ]
    refine held_take 8 (v := ?_) rfl (by kernel_rfl) (by kernel_rfl) (by kernel_rfl) (fun _ _ _ h => h) (by assumption) ?_ ?_
    rotate_left
    · first | (refine Or.inr ⟨?_, ?_⟩ <;> rfl) | (refine Or.inl ⟨by rfl, ?_⟩; intro w hSw; (try dsimp only at hSw); first | (go_simp; done) | (go_simp; with_reducible rfl))
    try simp only [Act.put, List.setIfInBounds_toArray, List.set_cons_zero, List.set_cons_succ]
    refine held_take 9 (v := ?_) rfl (by kernel_rfl) (by kernel_rfl) (by kernel_rfl) (fun _ _ _ h => h) (by assumption) ?_ ?_
    rotate_left
    · first | (refine Or.inr ⟨?_, ?_⟩ <;> rfl) | (refine Or.inl ⟨by rfl, ?_⟩; intro w hSw; (try dsimp only at hSw); first | (go_simp; done) | (go_simp; with_reducible rfl))
    try simp only [Act.put, List.setIfInBounds_toArray, List.set_cons_zero, List.set_cons_succ]
    refine held_call 3 rfl (by kernel_rfl) (fun K hK => ?_)
    go_simp
    with_reducible refine (c1 _ hHeld.2.2.2).mono ?_
    rintro e w5 ⟨_, rfl, ⟨a5, c5, rfl, hs5⟩, _, hbk⟩
    refine hK.out _ _ ?_ (fun hHeld => ?_)
    · first | exact hHeld | exact ⟨cell_keep' hHeld.1 hbk, cell_keep' hHeld.2.1 hbk, cell_keep' hHeld.2.2.1 hbk, bstep hHeld.2.2.2 hbk (Nat.le_refl _)⟩
    clear hK K
    try simp only [Act.put, List.setIfInBounds_toArray, List.set_cons_zero, List.set_cons_succ]
    refine held_call 6 rfl (by kernel_rfl) (fun K hK => ?_)
    go_simp
    with_reducible refine (cP _ _ _ hs5 hHeld.2.2.2).mono ?_
    rintro e w6 ⟨_, rfl, ⟨a6, c6, rfl, hs6⟩, _, hbk⟩
    refine hK.out _ _ ?_ (fun hHeld => ?_)
    · first | exact hHeld | exact ⟨cell_keep' hHeld.1 hbk, cell_keep' hHeld.2.1 hbk, cell_keep' hHeld.2.2.1 hbk, bstep hHeld.2.2.2 hbk (Nat.le_refl _)⟩
    clear hK K
    try simp only [Act.put, List.setIfInBounds_toArray, List.set_cons_zero, List.set_cons_succ]
    refine held_call 10 rfl (by kernel_rfl) (fun K hK => ?_)
    go_simp
    with_reducible refine (c2 _ hHeld.2.2.2).mono ?_
    rintro e w7 ⟨_, rfl, ⟨a7, c7, rfl, hs7⟩, _, hbk⟩
    replace hs6 := hs6.keep hbk (Nat.le_refl _)
    refine hK.out _ _ ?_ (fun hHeld => ?_)
    · first | exact hHeld | exact ⟨cell_keep' hHeld.1 hbk, cell_keep' hHeld.2.1 hbk, cell_keep' hHeld.2.2.1 hbk, bstep hHeld.2.2.2 hbk (Nat.le_refl _)⟩
    clear hK K
    try simp only [Act.put, List.setIfInBounds_toArray, List.set_cons_zero, List.set_cons_succ]
    refine held_call 11 rfl (by kernel_rfl) (fun K hK => ?_)
    go_simp
    with_reducible refine (divided_any (2 * A + D) (2 * D) HP.out _ _ _ _ L3 L4 _ hs6 hs7).mono ?_
    rintro e w8 ⟨_, _, rfl, ⟨a8, c8, rfl, hs8⟩, ⟨a9, c9, rfl, hs9⟩, hbk⟩
    refine hK.out _ _ ?_ (fun hHeld => ?_)
    · first | exact hHeld | exact ⟨cell_keep' hHeld.1 hbk, cell_keep' hHeld.2.1 hbk, cell_keep' hHeld.2.2.1 hbk, bstep hHeld.2.2.2 hbk (Nat.le_refl _)⟩
    clear hK K
    try simp only [Act.put, List.setIfInBounds_toArray, List.set_cons_zero, List.set_cons_succ]
    refine held_take 12 (v := ?_) rfl (by kernel_rfl) (by kernel_rfl) (by kernel_rfl) (fun _ _ _ h => h) (by assumption) ?_ ?_
    rotate_left
    · first | (refine Or.inr ⟨?_, ?_⟩ <;> rfl) | (refine Or.inl ⟨by rfl, ?_⟩; intro w hSw; (try dsimp only at hSw); first | (go_simp; done) | (go_simp; with_reducible rfl))
    try simp only [Act.put, List.setIfInBounds_toArray, List.set_cons_zero, List.set_cons_succ]
    refine held_take 13 (v := ?_) rfl (by kernel_rfl) (by kernel_rfl) (by kernel_rfl) (fun _ _ _ h => h) (by assumption) ?_ ?_
    rotate_left
    · first | (refine Or.inr ⟨?_, ?_⟩ <;> rfl) | (refine Or.inl ⟨by rfl, ?_⟩; intro w hSw; (try dsimp only at hSw); first | (go_simp; done) | (go_simp; with_reducible rfl))
    try simp only [Act.put, List.setIfInBounds_toArray, List.set_cons_zero, List.set_cons_succ]
    refine held_take 14 (v := ?_) rfl (by kernel_rfl) (by kernel_rfl) (by kernel_rfl) (fun _ _ _ h => h) (by assumption) ?_ ?_
    rotate_left
    · first | (refine Or.inr ⟨?_, ?_⟩ <;> rfl) | (refine Or.inl ⟨by rfl, ?_⟩; intro w hSw; (try dsimp only at hSw); first | (go_simp; done) | (go_simp; with_reducible rfl))
    try simp only [Act.put, List.setIfInBounds_toArray, List.set_cons_zero, List.set_cons_succ]
    refine held_take 15 (v := ?_) rfl (by kernel_rfl) (by kernel_rfl) (by kernel_rfl) (fun _ _ _ h => h) (by assumption) ?_ ?_
    rotate_left
    · first | (refine Or.inr ⟨?_, ?_⟩ <;> rfl) | (refine Or.inl ⟨by rfl, ?_⟩; intro w hSw; (try dsimp only at hSw); first | (go_simp; done) | (go_simp; with_reducible rfl))
    try simp only [Act.put, List.setIfInBounds_toArray, List.set_cons_zero, List.set_cons_succ]
    refine held_take 16 (v := ?_) rfl (by kernel_rfl) (by kernel_rfl) (by kernel_rfl) (fun _ _ _ h => h) (by assumption) ?_ ?_
    rotate_left
    · first | (refine Or.inr ⟨?_, ?_⟩ <;> rfl) | (refine Or.inl ⟨by rfl, ?_⟩; intro w hSw; (try dsimp only at hSw); first | (go_simp; done) | (go_simp; with_reducible rfl))
    try simp only [Act.put, List.setIfInBounds_toArray, List.set_cons_zero, List.set_cons_succ]
    refine wpAnyH_done (by kernel_rfl) ?_ _

    have HB6 := Lib.hid (bstep HBW.out hHeld.2.2.2 (Nat.le_refl _))
    have x0' := hHeld.1
    have cw := word_any ((2 * A + D) / (2 * D)) _ _ _ hs8
    rw [Nat.mod_eq_of_lt (Nat.lt_of_le_of_lt HLE.out.1 (by decide))] at cw
    clear hHeld x0 x1 x2 c1 c2 cP hs5 hs6 hs7 hs8 hs9 L1 L2 L3 L4 LA LD LT HA HD H2 HP
    generalize hq : (2 * A + D) / (2 * D) = q at *
    have HNB := Lib.hid (neg_back q HLE.out.1)
    have hq1 : (q : Int) ≤ 9223372036854775808 := by have := HLE.out.1; omega
    generalize (digs q).length = lq at *
    go_wp2_with fail
    with_reducible refine (cw).mono ?_
    rintro e w9 ⟨rfl, rfl⟩
    clear cw
    by_cases s1 : n < 0
    · have d1 : decide (n < 0) = true := decide_eq_true s1
      rw [d1] at x0'
      have HR2 := Lib.hid (show R = -(q : Int) by rw [HR.out, d1]; rfl)
      clear s1 d1 HR HLE
      go_wp2_with fail
      go_ret2
      exact ⟨by rw [HR2.out]; exact ret_two HNB.out, HB6.out⟩
    · have d1 : decide (n < 0) = false := decide_eq_false s1
      have hq2 : (q : Int) ≤ 9223372036854775807 := by have := HLE.out.2 (by omega); omega
      rw [d1] at x0'
      have HR2 := Lib.hid (show R = (q : Int) by rw [HR.out, d1]; rfl)
      clear s1 d1 HR HLE
      go_wp2_with fail
      go_ret2
      exact ⟨by rw [HR2.out]; rfl, HB6.out⟩
end Go.Proofs.YtajebceanonalaaGreatDoor

namespace Go.Proofs.YtajebceanonalaaGreatDoor
set_option linter.unusedVariables false
open Go.RowKit

theorem fitE_in {neg : Bool} {N D : Nat} {n d : Int} (h : fitE neg N D = some (n, d)) : In64 n ∧ In64 d := by
  unfold fitE at h
  unfold In64
  split at h
  · simp only [Option.some.injEq, Prod.mk.injEq] at h; omega
  · split at h
    · cases h
    · rename_i h1 h2
      simp only [Option.some.injEq, Prod.mk.injEq] at h
      unfold sgn at h
      cases neg <;> simp at h h2 <;> omega
theorem news_form (n d : Int) (P R : Value) (hP : P = if d = 0 then .tuple #[.agg #[.int .i64 0, .int .i64 0], errV 10] else ratV (frac (decide (n < 0) != decide (d < 0)) n.natAbs d.natAbs))
    (hR : R = if d = 0 then .tuple #[.agg #[.int .i64 0, .int .i64 0], .int .i64 10] else refV (frac (decide (n < 0) != decide (d < 0)) n.natAbs d.natAbs)) :
    ∃ (x y : Int) (e : Value) (k : Int), P = .tuple #[.agg #[.int .i64 x, .int .i64 y], e] ∧ R = .tuple #[.agg #[.int .i64 x, .int .i64 y], .int .i64 k] ∧ In64 x ∧ In64 y ∧
      (∀ w, LaidT w → Calls Tryz.prog 30 #[e, .int .i64 k] w fun e w' => e = .returned (.bool true) ∧ Below w.heap.size w w') := by
  have z : In64 0 := by unfold In64; omega
  by_cases h : d = 0
  · rw [if_pos h] at hP hR
    exact ⟨0, 0, _, 10, hP, hR, z, z, fun w hg => by simpa using plain_errno 10 10 (by omega) (by omega) w hg⟩
  · rw [if_neg h] at hP hR
    cases hF : frac (decide (n < 0) != decide (d < 0)) n.natAbs d.natAbs with
    | none =>
      rw [hF] at hP hR
      exact ⟨0, 0, _, 9, hP, hR, z, z, fun w hg => by simpa using plain_errno 9 9 (by omega) (by omega) w hg⟩
    | some p =>
      obtain ⟨x, y⟩ := p
      rw [hF] at hP hR
      have hi := fitE_in (show fitE _ _ _ = some (x, y) from hF)
      exact ⟨x, y, _, 0, hP, hR, hi.1, hi.2, fun w hg => by simpa using plain_nil 0 w⟩

set_option maxRecDepth 100000 in
set_option maxHeartbeats 2000000 in
theorem ratnews_any (n d : Int) (hn : In64 n) (hd : In64 d) (w : World) (hg : LaidT w) :
    Calls Tryz.prog 36 #[.int .i64 n, .int .i64 d] w fun e w' => e = .returned (.bool true) ∧ Below w.heap.size w w' := by
  have cn := new_any n d hn hd
  have cr := refnew_any n d hn hd
  obtain ⟨P, hP⟩ : ∃ P, P = (if d = 0 then Value.tuple #[.agg #[.int .i64 0, .int .i64 0], errV 10] else ratV (frac (decide (n < 0) != decide (d < 0)) n.natAbs d.natAbs)) := ⟨_, rfl⟩
  obtain ⟨R, hR⟩ : ∃ R, R = (if d = 0 then Value.tuple #[.agg #[.int .i64 0, .int .i64 0], .int .i64 10] else refV (frac (decide (n < 0) != decide (d < 0)) n.natAbs d.natAbs)) := ⟨_, rfl⟩
  rw [← hP] at cn
  rw [← hR] at cr
  obtain ⟨x, y, e, k, rfl, rfl, hx, hy, cp⟩ := news_form n d P R hP hR
  clear hP hR
  have r1 := right_any x y hx hy
  have r2 := refright_any x y hx hy
  have HG := Lib.hid hg
  clear hg
  go_enter Tryz.func36, Tryz.ntmps36
  go_wp2_with fail
  with_reducible refine (cn _).mono ?_
  rintro e w1 ⟨rfl, hb1⟩
  have HG1 := Lib.hid (HG.out.keep hb1)
  have HB1 := Lib.hid hb1
  clear hb1 cn HG
  go_wp2_with fail
  with_reducible refine (cr _).mono ?_
  rintro e w2 ⟨rfl, hb2⟩
  obtain ⟨ta, hsz, hbw⟩ := box1 w1 #[.int .i64 x, .int .i64 y] 23
  have TA := Lib.hid (ta.keep hb2 (Nat.le_refl _))
  have HG2 := Lib.hid ((HG1.out.keep hbw).keep hb2)
  have HB2 := Lib.hid ((HB1.out.trans (hbw.mono HB1.out.size)).trans (hb2.mono (Nat.le_trans HB1.out.size hbw.size)))
  clear hb2 cr HG1 HB1 hsz hbw ta
  obtain ⟨tb, hsz, hbw⟩ := box1 w2 #[.int .i64 x, .int .i64 y] 23
  have TB := Lib.hid tb
  obtain ⟨a0, a1, a2, a3⟩ := (TA.out.keep hbw (Nat.le_refl _)).two
  obtain ⟨b0, b1, b2, b3⟩ := TB.out.two
  have HG3 := Lib.hid (HG2.out.keep hbw)
  have HB4 := Lib.hid (HB2.out.trans (hbw.mono HB2.out.size))
  have TA2 := Lib.hid (TA.out.keep hbw (Nat.le_refl _))
  clear hsz hbw tb
  have ci := fun w2 hg => is_same_any x y e k true w2 (fun w' hb => cp w' (LaidT.keep hg hb))
  go_wp2_with fail
  have l0 := fun x : Later _ => Later.cell a0 x
  have l1 := fun x : Later _ => Later.cell a1 x
  have l2 := fun x : Later _ => Later.cell b0 x
  have l3 := fun x : Later _ => Later.cell b1 x
  have li := fun x : Later (w2.alloc (.cells #[.int .i64 x, .int .i64 y] 23)) => ci x.w (LaidT.keep HG3.out x.below)
  refine wp_region_later0 (by kernel_rfl) (by kernel_rfl) ?_
  repeat (go_big_quiet_step ((first | (go_at_call 8; with_reducible exact Later.made (li _)) | (go_at_call 11; with_reducible exact Later.made (r1 _)) | (go_at_call 78; with_reducible exact Later.made (r2 _)))))
  refine wpQuiet_nil ?_
  rintro _ ⟨x, rfl⟩
  have HB5 := Lib.hid (bstep HB4.out x.below (Nat.le_refl _))
  generalize x.w = w3 at *
  go_wp2_with fail
  go_ret
  exact ⟨rfl, HB5.out⟩
end Go.Proofs.YtajebceanonalaaGreatDoor

namespace Go.Proofs.YtajebceanonalaaGreatDoor
set_option linter.unusedVariables false
open Go.RowKit

/-- the program's answer and the reference's are the same number, and the error is the one whose number is told -/
def SameC (P R : Value) : Prop := ∃ (x : Int) (e : Value) (k : Int), P = .tuple #[.int .i64 x, e] ∧ R = .tuple #[.int .i64 x, .int .i64 k] ∧
  (∀ w, LaidT w → Calls Tryz.prog 30 #[e, .int .i64 k] w fun e w' => e = .returned (.bool true) ∧ Below w.heap.size w w')
theorem sameC_err : SameC (.tuple #[.int .i64 0, errV 1]) (.tuple #[.int .i64 0, .int .i64 1]) :=
  ⟨0, _, 1, rfl, rfl, fun w hg => by simpa using plain_errno 1 1 (by omega) (by omega) w hg⟩
theorem sameC_ok (x : Int) : SameC (.tuple #[.int .i64 x, .nilIface]) (.tuple #[.int .i64 x, .int .i64 0]) :=
  ⟨x, _, 0, rfl, rfl, fun w hg => by simpa using plain_nil 0 w⟩
theorem sameC_cmp (na da nb db : Int) : SameC (if rightB na da && rightB nb db then cmpV (cmpI na da nb db) else argC) (if rightB na da && rightB nb db then refcmpV (cmpI na da nb db) else refargC) := by
  split
  · exact sameC_ok _
  · exact sameC_err
theorem sameC_round (n d : Int) : SameC (if rightB n d then .tuple #[.int .i64 (roundI n d), .nilIface] else .tuple #[.int .i64 0, errV 1]) (if rightB n d then .tuple #[.int .i64 (roundI n d), .int .i64 0] else .tuple #[.int .i64 0, .int .i64 1]) := by
  split
  · exact sameC_ok _
  · exact sameC_err

set_option maxRecDepth 100000 in
set_option maxHeartbeats 4000000 in
theorem ratholds_any (na da nb db : Int) (h1 : In64 na) (h2 : In64 da) (h3 : In64 nb) (h4 : In64 db) (w : World) (hg : LaidT w) :
    Calls Tryz.prog 37 #[.agg #[.int .i64 na, .int .i64 da], .agg #[.int .i64 nb, .int .i64 db]] w fun e w' => e = .returned (.bool true) ∧ Below w.heap.size w w' := by
  have c1 := cmp_any na da nb db h1 h2 h3 h4
  have c2 := refcmp_any na da nb db h1 h2 h3 h4
  have c3 := round_any na da h1 h2
  have c4 := refround_any na da h1 h2
  obtain ⟨px, pe, pk, e1, e2, pc⟩ := sameC_cmp na da nb db
  obtain ⟨qx, qe, qk, e3, e4, qc⟩ := sameC_round na da
  rw [e1] at c1
  rw [e2] at c2
  rw [e3] at c3
  rw [e4] at c4
  clear e1 e2 e3 e4
  obtain ⟨ta, tb, hsz, hbw⟩ := box2 w #[.int .i64 na, .int .i64 da] #[.int .i64 nb, .int .i64 db] 23 23
  have TA := Lib.hid ta
  have TB := Lib.hid tb
  have HB := Lib.hid hbw
  have HG := Lib.hid (LaidT.keep hg hbw)
  clear ta tb hsz hbw hg h1 h2 h3 h4
  go_enter Tryz.func37, Tryz.ntmps37
  go_wp2_with fail
  with_reducible refine (c1 _).mono ?_
  rintro e w1 ⟨rfl, hb⟩
  replace TA := Lib.hid (TA.out.keep hb (Nat.le_refl _))
  replace TB := Lib.hid (TB.out.keep hb (Nat.le_refl _))
  replace HG := Lib.hid (LaidT.keep HG.out hb)
  replace HB := Lib.hid (bstep HB.out hb (Nat.le_refl _))
  clear hb c1
  obtain ⟨a0, a1, _, _⟩ := TA.out.two
  obtain ⟨b0, b1, _, _⟩ := TB.out.two
  go_wp2_with fail
  clear a0 a1 b0 b1
  with_reducible refine (c2 _).mono ?_
  rintro e w2 ⟨rfl, hb⟩
  replace TA := Lib.hid (TA.out.keep hb (Nat.le_refl _))
  replace TB := Lib.hid (TB.out.keep hb (Nat.le_refl _))
  replace HG := Lib.hid (LaidT.keep HG.out hb)
  replace HB := Lib.hid (bstep HB.out hb (Nat.le_refl _))
  clear hb c2
  obtain ⟨a0, a1, _, _⟩ := TA.out.two
  obtain ⟨b0, b1, _, _⟩ := TB.out.two
  go_wp2_with fail
  clear a0 a1 b0 b1
  with_reducible refine (c3 _).mono ?_
  rintro e w3 ⟨rfl, hb⟩
  replace TA := Lib.hid (TA.out.keep hb (Nat.le_refl _))
  replace TB := Lib.hid (TB.out.keep hb (Nat.le_refl _))
  replace HG := Lib.hid (LaidT.keep HG.out hb)
  replace HB := Lib.hid (bstep HB.out hb (Nat.le_refl _))
  clear hb c3
  obtain ⟨a0, a1, _, _⟩ := TA.out.two
  obtain ⟨b0, b1, _, _⟩ := TB.out.two
  go_wp2_with fail
  clear a0 a1 b0 b1
  with_reducible refine (c4 _).mono ?_
  rintro e w4 ⟨rfl, hb⟩
  replace TA := Lib.hid (TA.out.keep hb (Nat.le_refl _))
  replace TB := Lib.hid (TB.out.keep hb (Nat.le_refl _))
  replace HG := Lib.hid (LaidT.keep HG.out hb)
  replace HB := Lib.hid (bstep HB.out hb (Nat.le_refl _))
  clear hb c4
  obtain ⟨a0, a1, _, _⟩ := TA.out.two
  obtain ⟨b0, b1, _, _⟩ := TB.out.two
  go_wp2_with fail
  clear a0 a1 b0 b1
  with_reducible refine (pc _ HG.out).mono ?_
  rintro e w5 ⟨rfl, hb⟩
  replace HG := Lib.hid (LaidT.keep HG.out hb)
  replace HB := Lib.hid (bstep HB.out hb (Nat.le_refl _))
  clear hb
  go_wp2_with fail
  with_reducible refine (qc _ HG.out).mono ?_
  rintro e w6 ⟨rfl, hb⟩
  replace HB := Lib.hid (bstep HB.out hb (Nat.le_refl _))
  clear hb
  go_wp2_with fail
  go_ret
  exact ⟨rfl, HB.out⟩
end Go.Proofs.YtajebceanonalaaGreatDoor
