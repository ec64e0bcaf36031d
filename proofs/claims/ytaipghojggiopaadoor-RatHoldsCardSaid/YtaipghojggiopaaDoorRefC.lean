/-
  The reference's Cmp, Round: contracts.
-/
import Derived.Test.YtaipghojggiopaaDoorRefD
import Derived.Test.YtaipghojggiopaaDoorRatQ
namespace Go.Proofs.YtaipghojggiopaaDoor
set_option linter.unusedVariables false
open Go.RowKit

theorem alloc_one {B : Nat} {w0 w : World} (h : Below B w0 w) (cs : Array Value) (T : TypeId) : ∃ wE, w.alloc (.cells cs T) = wE ∧ Below w.heap.size w wE ∧ Blk wE w.heap.size cs := ⟨_, rfl, (Below.refl _ _).alloc (Nat.le_refl _) _, Blk.new w cs T⟩
/-- two operations are ready: either comes first -/
theorem held_call2 {P : Program} {md : Region.Mode} {ops : Array Oper} {Q : Exit → Act → World → Prop} {S : World → Prop} (i j : Nat) {o o2 : Oper} {fuel : Nat} {listed : Array Bool} {a : Act} {w : World} (ho : ops.toList[i]? = some o) (ho2 : ops.toList[j]? = some o2) (hr : Region.ready md ops listed = [i, j])
    (h : ∀ K' : Act → World → Prop, Shut (∀ a w, S w → (S w → wpAnyH P md ops Q S fuel (listed.setIfInBounds i true) a w) → K' a w) → if Region.wanted o (yielded ops a.tmps) = true then Oper.wp P o a w K' Q else K' (a.put o.dst undef) w)
    (h2 : ∀ K' : Act → World → Prop, Shut (∀ a w, S w → (S w → wpAnyH P md ops Q S fuel (listed.setIfInBounds j true) a w) → K' a w) → if Region.wanted o2 (yielded ops a.tmps) = true then Oper.wp P o2 a w K' Q else K' (a.put o2.dst undef) w) :
    wpAnyH P md ops Q S (fuel + 1) listed a w :=
  wpAnyH_ready (rs := [i, j]) hr (by simp) (AllReadyH.cons (by rw [← Array.getElem?_toList]; exact ho) h (AllReadyH.cons (by rw [← Array.getElem?_toList]; exact ho2) h2 AllReadyH.nil))
def refcmpV (c : Int) : Value := .tuple #[.int .i64 c, .int .i64 0]
def refargC : Value := .tuple #[.int .i64 0, .int .i64 1]
theorem refcmp_val {na da nb db : Int} {b : Bool} {N : Nat} (h : sgn b N = na * db + -nb * da) : cmpI na da nb db = if N = 0 then 0 else if b then -1 else 1 := by
  unfold cmpI
  rw [Int.neg_mul] at h
  by_cases h0 : N = 0
  · subst h0
    rw [sgn_zero] at h
    rw [if_pos rfl, if_neg (by omega), if_pos (by omega)]
  · rw [if_neg h0]
    cases b
    · simp [sgn] at h
      rw [if_neg (by omega), if_neg (by omega)]
      rfl
    · simp [sgn] at h
      rw [if_pos (by omega)]
      rfl
theorem refsum_sgn (na da nb db : Int) (h1 : 0 < da) (h2 : 0 < db) :
    sgn (sumF (decide (na < 0)) na.natAbs da.natAbs (!decide (nb < 0)) nb.natAbs db.natAbs).1 (sumF (decide (na < 0)) na.natAbs da.natAbs (!decide (nb < 0)) nb.natAbs db.natAbs).2 = na * db + -nb * da := by
  rw [sumF_val, sgn_self, sgn_not, sgn_self]
  have e1 : (db.natAbs : Int) = db := by omega
  have e2 : (da.natAbs : Int) = da := by omega
  rw [e1, e2]


set_option maxRecDepth 100000 in
set_option maxHeartbeats 2000000 in
theorem refcmp_bad (na da nb db : Int) (h1 : In64 na) (h2 : In64 da) (h3 : In64 nb) (h4 : In64 db) (hb : rightB na da = false ∨ rightB nb db = false) (w : World) :
    Calls Tryd.prog 13 #[.agg #[.int .i64 na, .int .i64 da], .agg #[.int .i64 nb, .int .i64 db]] w fun e w' => e = .returned (.tuple #[.int .i64 0, .int .i64 1]) ∧ Below w.heap.size w w' := by
  have ca := refright_any na da h1 h2
  have cb := refright_any nb db h3 h4
  have hbx := box2 w #[.int .i64 na, .int .i64 da] #[.int .i64 nb, .int .i64 db] 23 23
  obtain ⟨ta, tb, hsz, hbw⟩ := hbx
  have TA := Lib.hid ta
  have TB := Lib.hid tb
  have HBW := Lib.hid hbw
  have HSZ := Lib.hid hsz
  clear ta tb hsz hbw
  cases ha : rightB na da
  · rw [ha] at ca
    clear cb hb
    go_enter Tryd.func13, Tryd.ntmps13
    go_wp2_with fail
    with_reducible refine (ca _).mono ?_
    rintro e w1 ⟨rfl, hb1⟩
    replace HBW := Lib.hid (bstep HBW.out hb1 (Nat.le_refl _))
    clear ca hb1
    go_wp2_with fail
    exact bodyPost_ret (v := .tuple #[.int .i64 0, .int .i64 1]) (by simp [results, Tryd.results13, go_sem]) rfl ⟨rfl, by first | exact HBW.out | exact below_set2 HBW.out (by omega) _ _⟩
  · have hb2 : rightB nb db = false := by rcases hb with h | h; · rw [ha] at h; cases h
                                          · exact h
    rw [ha] at ca
    rw [hb2] at cb
    clear hb
    go_enter Tryd.func13, Tryd.ntmps13
    go_wp2_with fail
    with_reducible refine (ca _).mono ?_
    rintro e w1 ⟨rfl, hb1⟩
    replace HBW := Lib.hid (bstep HBW.out hb1 (Nat.le_refl _))
    replace TB := Lib.hid (TB.out.keep hb1 (Nat.le_refl _))
    obtain ⟨x0, x1, _, _⟩ := TB.out.two
    clear ca hb1
    go_wp2_with fail
    with_reducible refine (cb _).mono ?_
    rintro e w2 ⟨rfl, hb1⟩
    replace HBW := Lib.hid (bstep HBW.out hb1 (Nat.le_refl _))
    clear cb hb1
    go_wp2_with fail
    exact bodyPost_ret (v := .tuple #[.int .i64 0, .int .i64 1]) (by simp [results, Tryd.results13, go_sem]) rfl ⟨rfl, by first | exact HBW.out | exact below_set2 HBW.out (by omega) _ _⟩


set_option maxRecDepth 100000 in
set_option maxHeartbeats 4000000 in
theorem refcmp_ok (na da nb db : Int) (ha : RightP na da) (hb : RightP nb db) (w : World) :
    Calls Tryd.prog 13 #[.agg #[.int .i64 na, .int .i64 da], .agg #[.int .i64 nb, .int .i64 db]] w fun e w' => e = .returned (refcmpV (cmpI na da nb db)) ∧ Below w.heap.size w w' := by
  obtain ⟨a1, a2, a3, a4, a5⟩ := ha
  obtain ⟨b1, b2, b3, b4, b5⟩ := hb
  have ra := (rightB_iff na da ⟨a3, a4⟩ ⟨by omega, by omega⟩).2 ⟨a1, a2, a3, a4, a5⟩
  have rb := (rightB_iff nb db ⟨b3, b4⟩ ⟨by omega, by omega⟩).2 ⟨b1, b2, b3, b4, b5⟩
  have ca := refright_any na da ⟨a3, a4⟩ ⟨by omega, by omega⟩
  have cb := refright_any nb db ⟨b3, b4⟩ ⟨by omega, by omega⟩
  rw [ra] at ca
  rw [rb] at cb
  have ofa := of_any na da ⟨a3, a4⟩ ⟨by omega, by omega⟩
  have ofb := of_any nb db ⟨b3, b4⟩ ⟨by omega, by omega⟩
  have k1 : na.natAbs < 18446744073709551616 := by omega
  have k2 : da.natAbs < 18446744073709551616 := by omega
  have k3 : nb.natAbs < 18446744073709551616 := by omega
  have k4 : db.natAbs < 18446744073709551616 := by omega
  have hval := refcmp_val (refsum_sgn na da nb db (by omega) (by omega))
  rw [hval]
  have hlen := sumF_len (decide (na < 0)) (!decide (nb < 0)) k1 k2 k3 k4
  have HLEN := Lib.hid (And.intro hlen (And.intro (And.intro k1 k2) (And.intro k3 k4)))
  obtain ⟨s, hs⟩ : ∃ s, s = sumF (decide (na < 0)) na.natAbs da.natAbs (!decide (nb < 0)) nb.natAbs db.natAbs := ⟨_, rfl⟩
  rw [← hs]
  have HS := Lib.hid hs
  obtain ⟨C, hC⟩ : ∃ C : Int, C = if s.2 = 0 then 0 else if s.1 then -1 else 1 := ⟨_, rfl⟩
  rw [← hC]
  have HC := Lib.hid hC
  clear hval hlen k1 k2 k3 k4 hs hC
  have hbx := box2 w #[.int .i64 na, .int .i64 da] #[.int .i64 nb, .int .i64 db] 23 23
  obtain ⟨ta, tb, hsz, hbw⟩ := hbx
  have TA := Lib.hid ta
  have TB := Lib.hid tb
  have HBW := Lib.hid hbw
  clear ta tb hsz hbw
  clear a1 a2 a3 a4 a5 b1 b2 b3 b4 b5 ra rb
  go_enter Tryd.func13, Tryd.ntmps13
  go_wp2_with fail
  with_reducible refine (ca _).mono ?_
  rintro e w1 ⟨rfl, hb1⟩
  replace HBW := Lib.hid (bstep HBW.out hb1 (Nat.le_refl _))
  replace TA := Lib.hid (TA.out.keep hb1 (Nat.le_refl _))
  replace TB := Lib.hid (TB.out.keep hb1 (Nat.le_refl _))
  obtain ⟨x0, x1, _, _⟩ := TB.out.two
  clear ca hb1
  go_wp2_with fail
  with_reducible refine (cb _).mono ?_
  rintro e w2 ⟨rfl, hb1⟩
  replace HBW := Lib.hid (bstep HBW.out hb1 (Nat.le_refl _))
  replace TA := Lib.hid (TA.out.keep hb1 (Nat.le_refl _))
  replace TB := Lib.hid (TB.out.keep hb1 (Nat.le_refl _))
  clear x0 x1 cb hb1
  obtain ⟨x0, x1, _, _⟩ := TA.out.two
  obtain ⟨y0, y1, _, _⟩ := TB.out.two
  go_wp2_with fail
  refine wp_region_held_drew (S := (fun (w' : World) => w'.cell? ⟨w.heap.size, 0, none⟩ = some (.int .i64 na) ∧ w'.cell? ⟨w.heap.size, 1, none⟩ = some (.int .i64 da) ∧ w'.cell? ⟨w.heap.size + 1, 0, none⟩ = some (.int .i64 nb) ∧ w'.cell? ⟨w.heap.size + 1, 1, none⟩ = some (.int .i64 db) ∧ Below w2.heap.size w2 w')) (by kernel_rfl) ⟨x0, x1, y0, y1, (Below.refl _ _).drew⟩ (fun hHeld => ?_)
  refine held_take 0 (v := ?_) rfl (by kernel_rfl) (by kernel_rfl) (by kernel_rfl) (fun _ _ _ h => h) (by assumption) ?_ ?_
  rotate_left
  · first | (refine Or.inr ⟨?_, ?_⟩ <;> rfl) | (refine Or.inl ⟨by rfl, ?_⟩; intro w hSw; (try dsimp only at hSw); first | (go_simp; done) | (go_simp; with_reducible rfl))
  try simp only [Act.put, List.setIfInBounds_toArray, List.set_cons_zero, List.set_cons_succ]
  refine held_take 2 (v := ?_) rfl (by kernel_rfl) (by kernel_rfl) (by kernel_rfl) (fun _ _ _ h => h) (by assumption) ?_ ?_
  rotate_left
  · first | (refine Or.inr ⟨?_, ?_⟩ <;> rfl) | (refine Or.inl ⟨by rfl, ?_⟩; intro w hSw; (try dsimp only at hSw); first | (go_simp; done) | (go_simp; with_reducible rfl))
  try simp only [Act.put, List.setIfInBounds_toArray, List.set_cons_zero, List.set_cons_succ]
  refine held_call2 1 6 rfl rfl (by kernel_rfl) (fun K hK => ?_) (fun K hK => ?_)
  · go_simp
    with_reducible refine (ofa _).mono ?_
    rintro e wA ⟨_, rfl, hf3, hbk⟩
    have hB := bstep hHeld.2.2.2.2 hbk (Nat.le_refl _)
    refine hK.out _ _ ⟨cell_keep' x0 hB, cell_keep' x1 hB, cell_keep' y0 hB, cell_keep' y1 hB, hB⟩ (fun hHeld => ?_)
    clear hK K hbk hB
    try simp only [Act.put, List.setIfInBounds_toArray, List.set_cons_zero, List.set_cons_succ]
    refine held_call2 3 6 rfl rfl (by kernel_rfl) (fun K hK => ?_) (fun K hK => ?_)
    · go_simp
      with_reducible refine (ofb _).mono ?_
      rintro e wB ⟨_, rfl, hf4, hbk⟩
      replace hf3 := hf3.keep hbk
      have hB := bstep hHeld.2.2.2.2 hbk (Nat.le_refl _)
      refine hK.out _ _ ⟨cell_keep' x0 hB, cell_keep' x1 hB, cell_keep' y0 hB, cell_keep' y1 hB, hB⟩ (fun hHeld => ?_)
      clear hK K hbk hB
      try simp only [Act.put, List.setIfInBounds_toArray, List.set_cons_zero, List.set_cons_succ]
      refine held_call2 4 6 rfl rfl (by kernel_rfl) (fun K hK => ?_) (fun K hK => ?_)
      · go_simp
        with_reducible refine (opposite_any _ _ _ _ _ hf4).mono ?_
        rintro e wC ⟨_, rfl, hf7, hbk⟩
        replace hf3 := hf3.keep hbk
        replace hf4 := hf4.keep hbk
        have hB := bstep hHeld.2.2.2.2 hbk (Nat.le_refl _)
        refine hK.out _ _ ⟨cell_keep' x0 hB, cell_keep' x1 hB, cell_keep' y0 hB, cell_keep' y1 hB, hB⟩ (fun hHeld => ?_)
        clear hK K hbk hB
        try simp only [Act.put, List.setIfInBounds_toArray, List.set_cons_zero, List.set_cons_succ]
        refine held_call2 5 6 rfl rfl (by kernel_rfl) (fun K hK => ?_) (fun K hK => ?_)
        · go_simp
          with_reducible refine (refsum_any _ _ _ _ _ _ (by have := digs64 HLEN.out.2.1.1; omega) (by have := digs64 HLEN.out.2.1.2; omega) (by have := digs64 HLEN.out.2.2.1; omega) (by have := digs64 HLEN.out.2.2.2; omega) _ _ _ hf3 hf7).mono ?_
          rw [← HS.out]
          rintro e wD ⟨_, rfl, ⟨_, _, rfl, ⟨an, cn, rfl, hsn⟩, ⟨ad, cd, rfl, hsd⟩⟩, hbk⟩
          replace hf3 := hf3.keep hbk
          replace hf4 := hf4.keep hbk
          replace hf7 := hf7.keep hbk
          have hB := bstep hHeld.2.2.2.2 hbk (Nat.le_refl _)
          refine hK.out _ _ ⟨cell_keep' x0 hB, cell_keep' x1 hB, cell_keep' y0 hB, cell_keep' y1 hB, hB⟩ (fun hHeld => ?_)
          clear hK K hbk hB
          try simp only [Act.put, List.setIfInBounds_toArray, List.set_cons_zero, List.set_cons_succ]
          refine held_call 6 rfl (by kernel_rfl) (fun K hK => ?_)
          go_simp
          obtain ⟨wE, hE, hbk, t6⟩ := alloc_one hHeld.2.2.2.2 #[.bool false, .slice none 0 0, .slice none 0 0] 64
          have hg6 := hHeld.2.2.2.2.size
          try change Blk wE w2.heap.size _ at t6
          try change w2.heap.size ≤ w2.heap.size at hg6
          first | rw [hE] | (have hE2 : (World.alloc w2 _).drew = wE := hE; rw [hE2])
          replace hf3 := hf3.keep hbk
          replace hf4 := hf4.keep hbk
          replace hf7 := hf7.keep hbk
          have hB := bstep hHeld.2.2.2.2 hbk (Nat.le_refl _)
          refine hK.out _ _ ⟨cell_keep' x0 hB, cell_keep' x1 hB, cell_keep' y0 hB, cell_keep' y1 hB, hB⟩ (fun hHeld => ?_)
          clear hK K hbk hB
          try simp only [Act.put, List.setIfInBounds_toArray, List.set_cons_zero, List.set_cons_succ]
          refine held_call 7 rfl (by kernel_rfl) (fun K hK => ?_)
          obtain ⟨q0, q1, q2, q3, q4, q5⟩ := t6.three
          have T6 := Lib.hid (t6.set3 (.bool s.1) (.slice an (digs s.2).length cn) (.slice ad (digs (da.natAbs * db.natAbs)).length cd))
          have HB := Lib.hid (below_set3 hHeld.2.2.2.2 hg6 (.bool s.1) (.slice an (digs s.2).length cn) (.slice ad (digs (da.natAbs * db.natAbs)).length cd))
          clear t6
          go_simp
          have hB := HB.out
          refine hK.out _ _ ⟨cell_keep' x0 hB, cell_keep' x1 hB, cell_keep' y0 hB, cell_keep' y1 hB, hB⟩ (fun hHeld => ?_)
          clear hK K hB hHeld
          try simp only [Act.put, List.setIfInBounds_toArray, List.set_cons_zero, List.set_cons_succ]
          refine wpAnyH_done (by kernel_rfl) ?_ _
          clear q0 q1 q2 q3 q4 q5 x0 x1 y0 y1
          have HB6 := Lib.hid (bstep HBW.out HB.out (Nat.le_refl _))
          obtain ⟨q0, q1, q2, _, _, _⟩ := T6.out.three
          have HC1 := Lib.hid HC.out
          clear hsn hsd HS HLEN HC hg6
          generalize s.1 = s1 at *
          generalize s.2 = s2 at *
          by_cases h0 : s2 = 0
          · have hl2 : (((digs s2).length : Int) == 0) = true := by rw [beq_iff_eq, h0, digs_zero]; rfl
            have HC2 := Lib.hid (HC1.out.trans (if_pos h0))
            clear h0 HC1
            go_wp2_with fail
            go_ret2
            exact ⟨by rw [HC2.out]; rfl, HB6.out⟩
          · have hl : ¬ (digs s2).length = 0 := by rw [List.length_eq_zero_iff, digs_nil]; exact h0
            have hl2 : (((digs s2).length : Int) == 0) = false := by rw [beq_eq_false_iff_ne]; omega
            have HC2 := Lib.hid (HC1.out.trans (if_neg h0))
            clear h0 hl HC1
            cases s1
            · go_wp2_with fail
              go_ret2
              exact ⟨by rw [HC2.out]; rfl, HB6.out⟩
            · go_wp2_with fail
              go_ret2
              exact ⟨by rw [HC2.out]; rfl, HB6.out⟩
        · go_simp
          obtain ⟨wE, hE, hbk, t6⟩ := alloc_one hHeld.2.2.2.2 #[.bool false, .slice none 0 0, .slice none 0 0] 64
          have hg6 := hHeld.2.2.2.2.size
          try change Blk wE w2.heap.size _ at t6
          try change w2.heap.size ≤ w2.heap.size at hg6
          first | rw [hE] | (have hE2 : (World.alloc w2 _).drew = wE := hE; rw [hE2])
          replace hf3 := hf3.keep hbk
          replace hf4 := hf4.keep hbk
          replace hf7 := hf7.keep hbk
          have hB := bstep hHeld.2.2.2.2 hbk (Nat.le_refl _)
          refine hK.out _ _ ⟨cell_keep' x0 hB, cell_keep' x1 hB, cell_keep' y0 hB, cell_keep' y1 hB, hB⟩ (fun hHeld => ?_)
          clear hK K hbk hB
          try simp only [Act.put, List.setIfInBounds_toArray, List.set_cons_zero, List.set_cons_succ]
          refine held_call 5 rfl (by kernel_rfl) (fun K hK => ?_)
          go_simp
          with_reducible refine (refsum_any _ _ _ _ _ _ (by have := digs64 HLEN.out.2.1.1; omega) (by have := digs64 HLEN.out.2.1.2; omega) (by have := digs64 HLEN.out.2.2.1; omega) (by have := digs64 HLEN.out.2.2.2; omega) _ _ _ hf3 hf7).mono ?_
          rw [← HS.out]
          rintro e wD ⟨_, rfl, ⟨_, _, rfl, ⟨an, cn, rfl, hsn⟩, ⟨ad, cd, rfl, hsd⟩⟩, hbk⟩
          replace hf3 := hf3.keep hbk
          replace hf4 := hf4.keep hbk
          replace hf7 := hf7.keep hbk
          replace t6 := t6.keep hbk (Nat.le_refl _)
          have hB := bstep hHeld.2.2.2.2 hbk (Nat.le_refl _)
          refine hK.out _ _ ⟨cell_keep' x0 hB, cell_keep' x1 hB, cell_keep' y0 hB, cell_keep' y1 hB, hB⟩ (fun hHeld => ?_)
          clear hK K hbk hB
          try simp only [Act.put, List.setIfInBounds_toArray, List.set_cons_zero, List.set_cons_succ]
          refine held_call 7 rfl (by kernel_rfl) (fun K hK => ?_)
          obtain ⟨q0, q1, q2, q3, q4, q5⟩ := t6.three
          have T6 := Lib.hid (t6.set3 (.bool s.1) (.slice an (digs s.2).length cn) (.slice ad (digs (da.natAbs * db.natAbs)).length cd))
          have HB := Lib.hid (below_set3 hHeld.2.2.2.2 hg6 (.bool s.1) (.slice an (digs s.2).length cn) (.slice ad (digs (da.natAbs * db.natAbs)).length cd))
          clear t6
          go_simp
          have hB := HB.out
          refine hK.out _ _ ⟨cell_keep' x0 hB, cell_keep' x1 hB, cell_keep' y0 hB, cell_keep' y1 hB, hB⟩ (fun hHeld => ?_)
          clear hK K hB hHeld
          try simp only [Act.put, List.setIfInBounds_toArray, List.set_cons_zero, List.set_cons_succ]
          refine wpAnyH_done (by kernel_rfl) ?_ _
          clear q0 q1 q2 q3 q4 q5 x0 x1 y0 y1
          have HB6 := Lib.hid (bstep HBW.out HB.out (Nat.le_refl _))
          obtain ⟨q0, q1, q2, _, _, _⟩ := T6.out.three
          have HC1 := Lib.hid HC.out
          clear hsn hsd HS HLEN HC hg6
          generalize s.1 = s1 at *
          generalize s.2 = s2 at *
          by_cases h0 : s2 = 0
          · have hl2 : (((digs s2).length : Int) == 0) = true := by rw [beq_iff_eq, h0, digs_zero]; rfl
            have HC2 := Lib.hid (HC1.out.trans (if_pos h0))
            clear h0 HC1
            go_wp2_with fail
            go_ret2
            exact ⟨by rw [HC2.out]; rfl, HB6.out⟩
          · have hl : ¬ (digs s2).length = 0 := by rw [List.length_eq_zero_iff, digs_nil]; exact h0
            have hl2 : (((digs s2).length : Int) == 0) = false := by rw [beq_eq_false_iff_ne]; omega
            have HC2 := Lib.hid (HC1.out.trans (if_neg h0))
            clear h0 hl HC1
            cases s1
            · go_wp2_with fail
              go_ret2
              exact ⟨by rw [HC2.out]; rfl, HB6.out⟩
            · go_wp2_with fail
              go_ret2
              exact ⟨by rw [HC2.out]; rfl, HB6.out⟩
      · go_simp
        obtain ⟨wE, hE, hbk, t6⟩ := alloc_one hHeld.2.2.2.2 #[.bool false, .slice none 0 0, .slice none 0 0] 64
        have hg6 := hHeld.2.2.2.2.size
        try change Blk wE w2.heap.size _ at t6
        try change w2.heap.size ≤ w2.heap.size at hg6
        first | rw [hE] | (have hE2 : (World.alloc w2 _).drew = wE := hE; rw [hE2])
        replace hf3 := hf3.keep hbk
        replace hf4 := hf4.keep hbk
        have hB := bstep hHeld.2.2.2.2 hbk (Nat.le_refl _)
        refine hK.out _ _ ⟨cell_keep' x0 hB, cell_keep' x1 hB, cell_keep' y0 hB, cell_keep' y1 hB, hB⟩ (fun hHeld => ?_)
        clear hK K hbk hB
        try simp only [Act.put, List.setIfInBounds_toArray, List.set_cons_zero, List.set_cons_succ]
        refine held_call 4 rfl (by kernel_rfl) (fun K hK => ?_)
        go_simp
        with_reducible refine (opposite_any _ _ _ _ _ hf4).mono ?_
        rintro e wC ⟨_, rfl, hf7, hbk⟩
        replace hf3 := hf3.keep hbk
        replace hf4 := hf4.keep hbk
        replace t6 := t6.keep hbk (Nat.le_refl _)
        have hB := bstep hHeld.2.2.2.2 hbk (Nat.le_refl _)
        refine hK.out _ _ ⟨cell_keep' x0 hB, cell_keep' x1 hB, cell_keep' y0 hB, cell_keep' y1 hB, hB⟩ (fun hHeld => ?_)
        clear hK K hbk hB
        try simp only [Act.put, List.setIfInBounds_toArray, List.set_cons_zero, List.set_cons_succ]
        refine held_call 5 rfl (by kernel_rfl) (fun K hK => ?_)
        go_simp
        with_reducible refine (refsum_any _ _ _ _ _ _ (by have := digs64 HLEN.out.2.1.1; omega) (by have := digs64 HLEN.out.2.1.2; omega) (by have := digs64 HLEN.out.2.2.1; omega) (by have := digs64 HLEN.out.2.2.2; omega) _ _ _ hf3 hf7).mono ?_
        rw [← HS.out]
        rintro e wD ⟨_, rfl, ⟨_, _, rfl, ⟨an, cn, rfl, hsn⟩, ⟨ad, cd, rfl, hsd⟩⟩, hbk⟩
        replace hf3 := hf3.keep hbk
        replace hf4 := hf4.keep hbk
        replace t6 := t6.keep hbk (Nat.le_refl _)
        replace hf7 := hf7.keep hbk
        have hB := bstep hHeld.2.2.2.2 hbk (Nat.le_refl _)
        refine hK.out _ _ ⟨cell_keep' x0 hB, cell_keep' x1 hB, cell_keep' y0 hB, cell_keep' y1 hB, hB⟩ (fun hHeld => ?_)
        clear hK K hbk hB
        try simp only [Act.put, List.setIfInBounds_toArray, List.set_cons_zero, List.set_cons_succ]
        refine held_call 7 rfl (by kernel_rfl) (fun K hK => ?_)
        obtain ⟨q0, q1, q2, q3, q4, q5⟩ := t6.three
        have T6 := Lib.hid (t6.set3 (.bool s.1) (.slice an (digs s.2).length cn) (.slice ad (digs (da.natAbs * db.natAbs)).length cd))
        have HB := Lib.hid (below_set3 hHeld.2.2.2.2 hg6 (.bool s.1) (.slice an (digs s.2).length cn) (.slice ad (digs (da.natAbs * db.natAbs)).length cd))
        clear t6
        go_simp
        have hB := HB.out
        refine hK.out _ _ ⟨cell_keep' x0 hB, cell_keep' x1 hB, cell_keep' y0 hB, cell_keep' y1 hB, hB⟩ (fun hHeld => ?_)
        clear hK K hB hHeld
        try simp only [Act.put, List.setIfInBounds_toArray, List.set_cons_zero, List.set_cons_succ]
        refine wpAnyH_done (by kernel_rfl) ?_ _
        clear q0 q1 q2 q3 q4 q5 x0 x1 y0 y1
        have HB6 := Lib.hid (bstep HBW.out HB.out (Nat.le_refl _))
        obtain ⟨q0, q1, q2, _, _, _⟩ := T6.out.three
        have HC1 := Lib.hid HC.out
        clear hsn hsd HS HLEN HC hg6
        generalize s.1 = s1 at *
        generalize s.2 = s2 at *
        by_cases h0 : s2 = 0
        · have hl2 : (((digs s2).length : Int) == 0) = true := by rw [beq_iff_eq, h0, digs_zero]; rfl
          have HC2 := Lib.hid (HC1.out.trans (if_pos h0))
          clear h0 HC1
          go_wp2_with fail
          go_ret2
          exact ⟨by rw [HC2.out]; rfl, HB6.out⟩
        · have hl : ¬ (digs s2).length = 0 := by rw [List.length_eq_zero_iff, digs_nil]; exact h0
          have hl2 : (((digs s2).length : Int) == 0) = false := by rw [beq_eq_false_iff_ne]; omega
          have HC2 := Lib.hid (HC1.out.trans (if_neg h0))
          clear h0 hl HC1
          cases s1
          · go_wp2_with fail
            go_ret2
            exact ⟨by rw [HC2.out]; rfl, HB6.out⟩
          · go_wp2_with fail
            go_ret2
            exact ⟨by rw [HC2.out]; rfl, HB6.out⟩
    · go_simp
      obtain ⟨wE, hE, hbk, t6⟩ := alloc_one hHeld.2.2.2.2 #[.bool false, .slice none 0 0, .slice none 0 0] 64
      have hg6 := hHeld.2.2.2.2.size
      try change Blk wE w2.heap.size _ at t6
      try change w2.heap.size ≤ w2.heap.size at hg6
      first | rw [hE] | (have hE2 : (World.alloc w2 _).drew = wE := hE; rw [hE2])
      replace hf3 := hf3.keep hbk
      have hB := bstep hHeld.2.2.2.2 hbk (Nat.le_refl _)
      refine hK.out _ _ ⟨cell_keep' x0 hB, cell_keep' x1 hB, cell_keep' y0 hB, cell_keep' y1 hB, hB⟩ (fun hHeld => ?_)
      clear hK K hbk hB
      try simp only [Act.put, List.setIfInBounds_toArray, List.set_cons_zero, List.set_cons_succ]
      refine held_call 3 rfl (by kernel_rfl) (fun K hK => ?_)
      go_simp
      with_reducible refine (ofb _).mono ?_
      rintro e wB ⟨_, rfl, hf4, hbk⟩
      replace hf3 := hf3.keep hbk
      replace t6 := t6.keep hbk (Nat.le_refl _)
      have hB := bstep hHeld.2.2.2.2 hbk (Nat.le_refl _)
      refine hK.out _ _ ⟨cell_keep' x0 hB, cell_keep' x1 hB, cell_keep' y0 hB, cell_keep' y1 hB, hB⟩ (fun hHeld => ?_)
      clear hK K hbk hB
      try simp only [Act.put, List.setIfInBounds_toArray, List.set_cons_zero, List.set_cons_succ]
      refine held_call 4 rfl (by kernel_rfl) (fun K hK => ?_)
      go_simp
      with_reducible refine (opposite_any _ _ _ _ _ hf4).mono ?_
      rintro e wC ⟨_, rfl, hf7, hbk⟩
      replace hf3 := hf3.keep hbk
      replace t6 := t6.keep hbk (Nat.le_refl _)
      replace hf4 := hf4.keep hbk
      have hB := bstep hHeld.2.2.2.2 hbk (Nat.le_refl _)
      refine hK.out _ _ ⟨cell_keep' x0 hB, cell_keep' x1 hB, cell_keep' y0 hB, cell_keep' y1 hB, hB⟩ (fun hHeld => ?_)
      clear hK K hbk hB
      try simp only [Act.put, List.setIfInBounds_toArray, List.set_cons_zero, List.set_cons_succ]
      refine held_call 5 rfl (by kernel_rfl) (fun K hK => ?_)
      go_simp
      with_reducible refine (refsum_any _ _ _ _ _ _ (by have := digs64 HLEN.out.2.1.1; omega) (by have := digs64 HLEN.out.2.1.2; omega) (by have := digs64 HLEN.out.2.2.1; omega) (by have := digs64 HLEN.out.2.2.2; omega) _ _ _ hf3 hf7).mono ?_
      rw [← HS.out]
      rintro e wD ⟨_, rfl, ⟨_, _, rfl, ⟨an, cn, rfl, hsn⟩, ⟨ad, cd, rfl, hsd⟩⟩, hbk⟩
      replace hf3 := hf3.keep hbk
      replace t6 := t6.keep hbk (Nat.le_refl _)
      replace hf4 := hf4.keep hbk
      replace hf7 := hf7.keep hbk
      have hB := bstep hHeld.2.2.2.2 hbk (Nat.le_refl _)
      refine hK.out _ _ ⟨cell_keep' x0 hB, cell_keep' x1 hB, cell_keep' y0 hB, cell_keep' y1 hB, hB⟩ (fun hHeld => ?_)
      clear hK K hbk hB
      try simp only [Act.put, List.setIfInBounds_toArray, List.set_cons_zero, List.set_cons_succ]
      refine held_call 7 rfl (by kernel_rfl) (fun K hK => ?_)
      obtain ⟨q0, q1, q2, q3, q4, q5⟩ := t6.three
      have T6 := Lib.hid (t6.set3 (.bool s.1) (.slice an (digs s.2).length cn) (.slice ad (digs (da.natAbs * db.natAbs)).length cd))
      have HB := Lib.hid (below_set3 hHeld.2.2.2.2 hg6 (.bool s.1) (.slice an (digs s.2).length cn) (.slice ad (digs (da.natAbs * db.natAbs)).length cd))
      clear t6
      go_simp
      have hB := HB.out
      refine hK.out _ _ ⟨cell_keep' x0 hB, cell_keep' x1 hB, cell_keep' y0 hB, cell_keep' y1 hB, hB⟩ (fun hHeld => ?_)
      clear hK K hB hHeld
      try simp only [Act.put, List.setIfInBounds_toArray, List.set_cons_zero, List.set_cons_succ]
      refine wpAnyH_done (by kernel_rfl) ?_ _
      clear q0 q1 q2 q3 q4 q5 x0 x1 y0 y1
      have HB6 := Lib.hid (bstep HBW.out HB.out (Nat.le_refl _))
      obtain ⟨q0, q1, q2, _, _, _⟩ := T6.out.three
      have HC1 := Lib.hid HC.out
      clear hsn hsd HS HLEN HC hg6
      generalize s.1 = s1 at *
      generalize s.2 = s2 at *
      by_cases h0 : s2 = 0
      · have hl2 : (((digs s2).length : Int) == 0) = true := by rw [beq_iff_eq, h0, digs_zero]; rfl
        have HC2 := Lib.hid (HC1.out.trans (if_pos h0))
        clear h0 HC1
        go_wp2_with fail
        go_ret2
        exact ⟨by rw [HC2.out]; rfl, HB6.out⟩
      · have hl : ¬ (digs s2).length = 0 := by rw [List.length_eq_zero_iff, digs_nil]; exact h0
        have hl2 : (((digs s2).length : Int) == 0) = false := by rw [beq_eq_false_iff_ne]; omega
        have HC2 := Lib.hid (HC1.out.trans (if_neg h0))
        clear h0 hl HC1
        cases s1
        · go_wp2_with fail
          go_ret2
          exact ⟨by rw [HC2.out]; rfl, HB6.out⟩
        · go_wp2_with fail
          go_ret2
          exact ⟨by rw [HC2.out]; rfl, HB6.out⟩
  · go_simp
    obtain ⟨wE, hE, hbk, t6⟩ := alloc_one hHeld.2.2.2.2 #[.bool false, .slice none 0 0, .slice none 0 0] 64
    have hg6 := hHeld.2.2.2.2.size
    try change Blk wE w2.heap.size _ at t6
    try change w2.heap.size ≤ w2.heap.size at hg6
    first | rw [hE] | (have hE2 : (World.alloc w2 _).drew = wE := hE; rw [hE2])
    have hB := bstep hHeld.2.2.2.2 hbk (Nat.le_refl _)
    refine hK.out _ _ ⟨cell_keep' x0 hB, cell_keep' x1 hB, cell_keep' y0 hB, cell_keep' y1 hB, hB⟩ (fun hHeld => ?_)
    clear hK K hbk hB
    try simp only [Act.put, List.setIfInBounds_toArray, List.set_cons_zero, List.set_cons_succ]
    refine held_call 1 rfl (by kernel_rfl) (fun K hK => ?_)
    go_simp
    with_reducible refine (ofa _).mono ?_
    rintro e wA ⟨_, rfl, hf3, hbk⟩
    replace t6 := t6.keep hbk (Nat.le_refl _)
    have hB := bstep hHeld.2.2.2.2 hbk (Nat.le_refl _)
    refine hK.out _ _ ⟨cell_keep' x0 hB, cell_keep' x1 hB, cell_keep' y0 hB, cell_keep' y1 hB, hB⟩ (fun hHeld => ?_)
    clear hK K hbk hB
    try simp only [Act.put, List.setIfInBounds_toArray, List.set_cons_zero, List.set_cons_succ]
    refine held_call 3 rfl (by kernel_rfl) (fun K hK => ?_)
    go_simp
    with_reducible refine (ofb _).mono ?_
    rintro e wB ⟨_, rfl, hf4, hbk⟩
    replace t6 := t6.keep hbk (Nat.le_refl _)
    replace hf3 := hf3.keep hbk
    have hB := bstep hHeld.2.2.2.2 hbk (Nat.le_refl _)
    refine hK.out _ _ ⟨cell_keep' x0 hB, cell_keep' x1 hB, cell_keep' y0 hB, cell_keep' y1 hB, hB⟩ (fun hHeld => ?_)
    clear hK K hbk hB
    try simp only [Act.put, List.setIfInBounds_toArray, List.set_cons_zero, List.set_cons_succ]
    refine held_call 4 rfl (by kernel_rfl) (fun K hK => ?_)
    go_simp
    with_reducible refine (opposite_any _ _ _ _ _ hf4).mono ?_
    rintro e wC ⟨_, rfl, hf7, hbk⟩
    replace t6 := t6.keep hbk (Nat.le_refl _)
    replace hf3 := hf3.keep hbk
    replace hf4 := hf4.keep hbk
    have hB := bstep hHeld.2.2.2.2 hbk (Nat.le_refl _)
    refine hK.out _ _ ⟨cell_keep' x0 hB, cell_keep' x1 hB, cell_keep' y0 hB, cell_keep' y1 hB, hB⟩ (fun hHeld => ?_)
    clear hK K hbk hB
    try simp only [Act.put, List.setIfInBounds_toArray, List.set_cons_zero, List.set_cons_succ]
    refine held_call 5 rfl (by kernel_rfl) (fun K hK => ?_)
    go_simp
    with_reducible refine (refsum_any _ _ _ _ _ _ (by have := digs64 HLEN.out.2.1.1; omega) (by have := digs64 HLEN.out.2.1.2; omega) (by have := digs64 HLEN.out.2.2.1; omega) (by have := digs64 HLEN.out.2.2.2; omega) _ _ _ hf3 hf7).mono ?_
    rw [← HS.out]
    rintro e wD ⟨_, rfl, ⟨_, _, rfl, ⟨an, cn, rfl, hsn⟩, ⟨ad, cd, rfl, hsd⟩⟩, hbk⟩
    replace t6 := t6.keep hbk (Nat.le_refl _)
    replace hf3 := hf3.keep hbk
    replace hf4 := hf4.keep hbk
    replace hf7 := hf7.keep hbk
    have hB := bstep hHeld.2.2.2.2 hbk (Nat.le_refl _)
    refine hK.out _ _ ⟨cell_keep' x0 hB, cell_keep' x1 hB, cell_keep' y0 hB, cell_keep' y1 hB, hB⟩ (fun hHeld => ?_)
    clear hK K hbk hB
    try simp only [Act.put, List.setIfInBounds_toArray, List.set_cons_zero, List.set_cons_succ]
    refine held_call 7 rfl (by kernel_rfl) (fun K hK => ?_)
    obtain ⟨q0, q1, q2, q3, q4, q5⟩ := t6.three
    have T6 := Lib.hid (t6.set3 (.bool s.1) (.slice an (digs s.2).length cn) (.slice ad (digs (da.natAbs * db.natAbs)).length cd))
    have HB := Lib.hid (below_set3 hHeld.2.2.2.2 hg6 (.bool s.1) (.slice an (digs s.2).length cn) (.slice ad (digs (da.natAbs * db.natAbs)).length cd))
    clear t6
    go_simp
    have hB := HB.out
    refine hK.out _ _ ⟨cell_keep' x0 hB, cell_keep' x1 hB, cell_keep' y0 hB, cell_keep' y1 hB, hB⟩ (fun hHeld => ?_)
    clear hK K hB hHeld
    try simp only [Act.put, List.setIfInBounds_toArray, List.set_cons_zero, List.set_cons_succ]
    refine wpAnyH_done (by kernel_rfl) ?_ _
    clear q0 q1 q2 q3 q4 q5 x0 x1 y0 y1
    have HB6 := Lib.hid (bstep HBW.out HB.out (Nat.le_refl _))
    obtain ⟨q0, q1, q2, _, _, _⟩ := T6.out.three
    have HC1 := Lib.hid HC.out
    clear hsn hsd HS HLEN HC hg6
    generalize s.1 = s1 at *
    generalize s.2 = s2 at *
    by_cases h0 : s2 = 0
    · have hl2 : (((digs s2).length : Int) == 0) = true := by rw [beq_iff_eq, h0, digs_zero]; rfl
      have HC2 := Lib.hid (HC1.out.trans (if_pos h0))
      clear h0 HC1
      go_wp2_with fail
      go_ret2
      exact ⟨by rw [HC2.out]; rfl, HB6.out⟩
    · have hl : ¬ (digs s2).length = 0 := by rw [List.length_eq_zero_iff, digs_nil]; exact h0
      have hl2 : (((digs s2).length : Int) == 0) = false := by rw [beq_eq_false_iff_ne]; omega
      have HC2 := Lib.hid (HC1.out.trans (if_neg h0))
      clear h0 hl HC1
      cases s1
      · go_wp2_with fail
        go_ret2
        exact ⟨by rw [HC2.out]; rfl, HB6.out⟩
      · go_wp2_with fail
        go_ret2
        exact ⟨by rw [HC2.out]; rfl, HB6.out⟩

theorem refcmp_any (na da nb db : Int) (h1 : In64 na) (h2 : In64 da) (h3 : In64 nb) (h4 : In64 db) (w : World) :
    Calls Tryd.prog 13 #[.agg #[.int .i64 na, .int .i64 da], .agg #[.int .i64 nb, .int .i64 db]] w fun e w' =>
      e = .returned (if rightB na da && rightB nb db then refcmpV (cmpI na da nb db) else refargC) ∧ Below w.heap.size w w' := by
  cases ha : rightB na da
  · exact refcmp_bad na da nb db h1 h2 h3 h4 (.inl ha) w
  · cases hb : rightB nb db
    · exact refcmp_bad na da nb db h1 h2 h3 h4 (.inr hb) w
    · exact refcmp_ok na da nb db ((rightB_iff na da h1 h2).1 ha) ((rightB_iff nb db h3 h4).1 hb) w
end Go.Proofs.YtaipghojggiopaaDoor
