/-
  The reference's opposite, sum: contracts.
-/
import Derived.Test.YtaipghojggiopaaDoorRefO
namespace Go.Proofs.YtaipghojggiopaaDoor
set_option linter.unusedVariables false
open Go.RowKit

/-- the numbers of a sum of fractions with signs -/
def sumF (n1 : Bool) (A D : Nat) (n2 : Bool) (B E : Nat) : Bool × Nat :=
  if n1 = n2 then (n1, A * E + B * D) else if B * D ≤ A * E then (n1, A * E - B * D) else (n2, B * D - A * E)
theorem sumF_val (n1 : Bool) (A D : Nat) (n2 : Bool) (B E : Nat) : sgn (sumF n1 A D n2 B E).1 (sumF n1 A D n2 B E).2 = sgn n1 A * E + sgn n2 B * D := by
  unfold sumF
  rw [← sgn_mul, ← sgn_mul]
  generalize A * E = x
  generalize B * D = y
  by_cases h : n1 = n2
  · subst h; rw [if_pos rfl]; cases n1 <;> simp [sgn]; omega
  · rw [if_neg h]
    by_cases h2 : y ≤ x
    · rw [if_pos h2]; cases n1 <;> cases n2 <;> simp_all [sgn] <;> omega
    · rw [if_neg h2]; cases n1 <;> cases n2 <;> simp_all [sgn] <;> omega

theorem len_mul {a b i j : Nat} (ha : (digs a).length ≤ i) (hb : (digs b).length ≤ j) : (digs (a * b)).length ≤ i + j := by
  rw [digs_len] at *
  rw [Nat.pow_add]
  exact Nat.mul_lt_mul'' ha hb

set_option maxRecDepth 100000 in
set_option maxHeartbeats 2000000 in
theorem opposite_any (n1 : Bool) (A D : Nat) (f : Value) (w : World) (hf : FracV w f n1 A D) :
    Calls Tryd.prog 40 #[f] w (RetFrac w (!n1) A D) := by
  obtain ⟨xa, xd, rfl, ⟨aa, ca, rfl, ha⟩, ⟨ad, cd, rfl, hd⟩⟩ := hf
  obtain ⟨t0, t1, hsz, hbw⟩ := box2 w #[.bool n1, .slice aa (digs A).length ca, .slice ad (digs D).length cd] #[.bool false, .slice none 0 0, .slice none 0 0] 64 64
  obtain ⟨s0, s1, ssz, sbw⟩ := box2 w #[.bool n1, .slice aa (digs A).length ca, .slice ad (digs D).length cd] #[.bool (!n1), .slice aa (digs A).length ca, .slice ad (digs D).length cd] 64 64
  have HB := Lib.hid sbw
  have HA := Lib.hid (NatV.keep (w := w) ⟨aa, ca, rfl, ha⟩ HB.out)
  have HD := Lib.hid (NatV.keep (w := w) ⟨ad, cd, rfl, hd⟩ HB.out)
  obtain ⟨x0, x1, x2, x3, x4, x5⟩ := t0.three
  obtain ⟨y0, y1, y2, y3, y4, y5⟩ := t1.three
  clear s0 s1 ssz sbw
  clear hsz hbw t0 t1 ha hd
  go_enter Tryd.func40, Tryd.ntmps40
  go_wp2_with fail
  exact bodyPost_ret (v := .agg #[.bool (!n1), .slice aa (digs A).length ca, .slice ad (digs D).length cd]) (by simp [results, Tryd.results40, go_sem]) rfl ⟨_, rfl, ⟨_, _, rfl, HA.out, HD.out⟩, HB.out⟩


set_option maxRecDepth 100000 in
set_option maxHeartbeats 4000000 in
theorem refsum_any (n1 : Bool) (A D : Nat) (n2 : Bool) (B E : Nat) (hA : (digs A).length ≤ 1000) (hD : (digs D).length ≤ 1000) (hB : (digs B).length ≤ 1000) (hE : (digs E).length ≤ 1000) (f g : Value) (w : World) (hf : FracV w f n1 A D) (hg : FracV w g n2 B E) :
    Calls Tryd.prog 38 #[f, g] w (RetFrac w (sumF n1 A D n2 B E).1 (sumF n1 A D n2 B E).2 (D * E)) := by
  obtain ⟨xa, xd, rfl, ⟨aa, ca, rfl, ha⟩, ⟨ad, cd, rfl, hd⟩⟩ := hf
  obtain ⟨xb, xe, rfl, ⟨ab, cb, rfl, hb⟩, ⟨ae, ce, rfl, he⟩⟩ := hg
  have HA := Lib.hid ha
  have HD := Lib.hid hd
  have HB := Lib.hid hb
  have HE := Lib.hid he
  clear ha hd hb he
  have HLN := Lib.hid (And.intro (len_mul hA hE) (And.intro (len_mul hB hD) (len_mul hD hE)))
  have c1 := fun w' (h : Below w.heap.size w w') => times_any A E aa ae ca ce (by omega) (by omega) w' (HA.out.keep h (Nat.le_refl _)) (HE.out.keep h (Nat.le_refl _))
  have c2 := fun w' (h : Below w.heap.size w w') => times_any B D ab ad cb cd (by omega) (by omega) w' (HB.out.keep h (Nat.le_refl _)) (HD.out.keep h (Nat.le_refl _))
  have c3 := fun w' (h : Below w.heap.size w w') => times_any D E ad ae cd ce (by omega) (by omega) w' (HD.out.keep h (Nat.le_refl _)) (HE.out.keep h (Nat.le_refl _))
  clear hA hD hB hE
  obtain ⟨s, hs⟩ : ∃ s, s = sumF n1 A D n2 B E := ⟨_, rfl⟩
  rw [← hs]
  have HS := Lib.hid hs
  clear hs
  generalize (digs A).length = la at *
  generalize (digs D).length = ld at *
  generalize (digs B).length = lb at *
  generalize (digs E).length = le at *
  obtain ⟨t0, t1, t2, hsz, hbw⟩ := box3 w #[.bool n1, .slice aa la ca, .slice ad ld cd] #[.bool n2, .slice ab lb cb, .slice ae le ce] #[.bool false, .slice none 0 0, .slice none 0 0] 64 64 64
  obtain ⟨x0, x1, x2, x3, x4, x5⟩ := t0.three
  obtain ⟨z0, z1, z2, z3, z4, z5⟩ := t1.three
  have T0 := Lib.hid t0
  have T1 := Lib.hid t1
  have T2 := Lib.hid t2
  have HBW := Lib.hid hbw
  have HSZ := Lib.hid (Nat.le_of_eq hsz.symm)
  clear t0 t1 t2 hsz
  go_enter Tryd.func38, Tryd.ntmps38
  go_wp2_with fail
  with_reducible refine (c1 _ hbw).mono ?_
  rintro e w1 ⟨_, rfl, ⟨ax, cx, rfl, hsx⟩, hfx, hb1⟩
  have HX := Lib.hid hsx
  replace T0 := Lib.hid (T0.out.keep hb1 (Nat.le_refl _))
  replace T1 := Lib.hid (T1.out.keep hb1 (Nat.le_refl _))
  replace T2 := Lib.hid (T2.out.keep hb1 (Nat.le_refl _))
  replace HBW := Lib.hid (bstep HBW.out hb1 (Nat.le_refl _))
  replace HSZ := Lib.hid (Nat.le_trans HSZ.out hb1.size)
  clear x0 x1 x2 x3 x4 x5 z0 z1 z2 z3 z4 z5 c1 hbw hsx hb1 hfx
  obtain ⟨x0, x1, x2, x3, x4, x5⟩ := T0.out.three
  obtain ⟨z0, z1, z2, z3, z4, z5⟩ := T1.out.three
  go_wp2_with fail
  with_reducible refine (c2 _ HBW.out).mono ?_
  rintro e w2 ⟨_, rfl, ⟨ay, cy, rfl, hsy⟩, hfy, hb1⟩
  replace HX := Lib.hid (HX.out.keep hb1 (Nat.le_refl _))
  have HY := Lib.hid hsy
  replace T0 := Lib.hid (T0.out.keep hb1 (Nat.le_refl _))
  replace T1 := Lib.hid (T1.out.keep hb1 (Nat.le_refl _))
  replace T2 := Lib.hid (T2.out.keep hb1 (Nat.le_refl _))
  replace HBW := Lib.hid (bstep HBW.out hb1 (Nat.le_refl _))
  replace HSZ := Lib.hid (Nat.le_trans HSZ.out hb1.size)
  clear x0 x1 x2 x3 x4 x5 z0 z1 z2 z3 z4 z5 c2 hsy hb1 hfy
  obtain ⟨x0, x1, x2, x3, x4, x5⟩ := T0.out.three
  obtain ⟨z0, z1, z2, z3, z4, z5⟩ := T1.out.three
  go_wp2_with fail
  with_reducible refine (c3 _ HBW.out).mono ?_
  rintro e w3 ⟨_, rfl, ⟨az, cz, rfl, hsz⟩, hfz, hb1⟩
  replace HX := Lib.hid (HX.out.keep hb1 (Nat.le_refl _))
  replace HY := Lib.hid (HY.out.keep hb1 (Nat.le_refl _))
  have HFZ := Lib.hid (FreshV.low hfz HSZ.out)
  have HZ := Lib.hid (show NatV w3 (.slice az (digs (D * E)).length cz) (D * E) from ⟨az, cz, rfl, hsz⟩)
  replace T0 := Lib.hid (T0.out.keep hb1 (Nat.le_refl _))
  replace T1 := Lib.hid (T1.out.keep hb1 (Nat.le_refl _))
  replace T2 := Lib.hid (T2.out.keep hb1 (Nat.le_refl _))
  replace HBW := Lib.hid (bstep HBW.out hb1 (Nat.le_refl _))
  replace HSZ := Lib.hid (Nat.le_trans HSZ.out hb1.size)
  clear x0 x1 x2 x3 x4 x5 z0 z1 z2 z3 z4 z5 c3 hsz hb1 hfz
  generalize (digs (D * E)).length = lz at *
  have l1 : (digs (A * E)).length ≤ 10000 := by have := HLN.out; omega
  have l2 : (digs (B * D)).length ≤ 10000 := by have := HLN.out; omega
  clear HA HD HB HE HLN
  have hs := HS.out
  unfold sumF at hs
  generalize A * E = X at *
  generalize B * D = Y at *
  have cH := held_any X Y ax ay cx cy (by omega) (by omega) w3 HX.out HY.out
  have cP1 := fun w' (h : Below w3.heap.size w3 w') => plus_any X Y ax ay cx cy (by omega) (by omega) w' (HX.out.keep h (Nat.le_refl _)) (HY.out.keep h (Nat.le_refl _))
  have cP2 := fun (hle : Y ≤ X) w' (h : Below w3.heap.size w3 w') => less_any X Y hle ax ay cx cy (by omega) w' (HX.out.keep h (Nat.le_refl _)) (HY.out.keep h (Nat.le_refl _))
  have cP3 := fun (hle : X ≤ Y) w' (h : Below w3.heap.size w3 w') => less_any Y X hle ay ax cy cx (by omega) w' (HY.out.keep h (Nat.le_refl _)) (HX.out.keep h (Nat.le_refl _))
  clear l1 l2
  generalize hlx : (digs X).length = lx at *
  generalize hly : (digs Y).length = ly at *
  clear hlx hly
  obtain ⟨x0, _, _, x3, _, _⟩ := T0.out.three
  obtain ⟨x1', _, _, z3, _, _⟩ := T1.out.three
  by_cases h12 : n1 = n2
  · have hq : (n1 == n2) = true := by simpa using h12
    rw [if_pos h12] at hs
    subst hs
    have cP := cP1
    clear cP1 cP2 cP3 cH h12 HS
    go_wp2_with fail
    refine wp_region_held_drew (S := (fun (w' : World) => w'.cell? ⟨w.heap.size, 0, none⟩ = some (.bool n1) ∧ w'.cell? ⟨w.heap.size + 1, 0, none⟩ = some (.bool n2) ∧ Blk w' w.heap.size #[.bool n1, .slice aa la ca, .slice ad ld cd] ∧ Blk w' (w.heap.size + 1) #[.bool n2, .slice ab lb cb, .slice ae le ce] ∧ Below w.heap.size w w' ∧ w.heap.size + 3 ≤ w'.heap.size ∧ NatV w' (.slice az lz cz) (D * E) ∧ ∃ x y z, Blk w' (w.heap.size + 1 + 1) #[x, y, z])) (by kernel_rfl) ⟨x0, x1', (T0.out).keep (Below.refl _ _).drew (Nat.le_refl _), (T1.out).keep (Below.refl _ _).drew (Nat.le_refl _), HBW.out.drew, HSZ.out, NatV.keep HZ.out (Below.refl _ _).drew, _, _, _, (T2.out).keep (Below.refl _ _).drew (Nat.le_refl _)⟩ (fun hHeld => ?_)
    refine held_take 0 (v := ?_) rfl (by kernel_rfl) (by kernel_rfl) (by kernel_rfl) (fun _ _ _ h => h) (by assumption) ?_ ?_
    rotate_left
    · first | (refine Or.inr ⟨?_, ?_⟩ <;> rfl) | (refine Or.inl ⟨by rfl, ?_⟩; intro w hSw; (try dsimp only at hSw); first | (go_simp; done) | (go_simp; with_reducible rfl))
    try simp only [Act.put, List.setIfInBounds_toArray, List.set_cons_zero, List.set_cons_succ]
    refine held_take 1 (v := ?_) rfl (by kernel_rfl) (by kernel_rfl) (by kernel_rfl) (fun _ _ _ h => h) (by assumption) ?_ ?_
    rotate_left
    · first | (refine Or.inr ⟨?_, ?_⟩ <;> rfl) | (refine Or.inl ⟨by rfl, ?_⟩; intro w hSw; (try dsimp only at hSw); first | (go_simp; done) | (go_simp; with_reducible rfl))
    try simp only [Act.put, List.setIfInBounds_toArray, List.set_cons_zero, List.set_cons_succ]
    refine held_take 2 (v := ?_) rfl (by kernel_rfl) (by kernel_rfl) (by kernel_rfl) (fun _ _ _ h => h) (by assumption) ?_ ?_
    rotate_left
    · first | (refine Or.inr ⟨?_, ?_⟩ <;> rfl) | (refine Or.inl ⟨by rfl, ?_⟩; intro w hSw; (try dsimp only at hSw); first | (go_simp; done) | (go_simp; with_reducible rfl))
    try simp only [Act.put, List.setIfInBounds_toArray, List.set_cons_zero, List.set_cons_succ]
    refine held_take 3 (v := ?_) rfl (by kernel_rfl) (by kernel_rfl) (by kernel_rfl) (fun _ _ _ h => h) (by assumption) ?_ ?_
    rotate_left
    · first | (refine Or.inr ⟨?_, ?_⟩ <;> rfl) | (refine Or.inl ⟨by rfl, ?_⟩; intro w hSw; (try dsimp only at hSw); first | (go_simp; done) | (go_simp; with_reducible rfl))
    try simp only [Act.put, List.setIfInBounds_toArray, List.set_cons_zero, List.set_cons_succ]
    refine held_take 5 (v := ?_) rfl (by kernel_rfl) (by kernel_rfl) (by kernel_rfl) (fun _ _ _ h => h) (by assumption) ?_ ?_
    rotate_left
    · first | (refine Or.inr ⟨?_, ?_⟩ <;> rfl) | (refine Or.inl ⟨by rfl, ?_⟩; intro w hSw; (try dsimp only at hSw); first | (go_simp; done) | (go_simp; with_reducible rfl))
    try simp only [Act.put, List.setIfInBounds_toArray, List.set_cons_zero, List.set_cons_succ]
    refine held_call 4 rfl (by kernel_rfl) (fun K hK => ?_)
    go_simp
    with_reducible refine ((cP _ (Below.refl _ _).drew)).mono ?_
    rintro e w4 ⟨_, rfl, ⟨ap, cp, rfl, hsp⟩, hfp, hbk⟩
    have hb4 := hbk
    refine hK.out _ _ ?_ (fun hHeld => ?_)
    · first | exact hHeld | exact ⟨cell_keep' hHeld.1 hbk, cell_keep' hHeld.2.1 hbk, hHeld.2.2.1.keep hbk (Nat.le_refl _), hHeld.2.2.2.1.keep hbk (Nat.le_refl _), bstep hHeld.2.2.2.2.1 hbk (Nat.le_refl _), Nat.le_trans hHeld.2.2.2.2.2.1 hbk.size, hHeld.2.2.2.2.2.2.1.keep hbk, hHeld.2.2.2.2.2.2.2.imp fun _ => Exists.imp fun _ => Exists.imp fun _ h => h.keep hbk (Nat.le_refl _)⟩
    clear hK K
    try simp only [Act.put, List.setIfInBounds_toArray, List.set_cons_zero, List.set_cons_succ]
    refine held_take 6 (v := ?_) rfl (by kernel_rfl) (by kernel_rfl) (by kernel_rfl) (fun _ _ _ h => h) (by assumption) ?_ ?_
    rotate_left
    · first | (refine Or.inr ⟨?_, ?_⟩ <;> rfl) | (refine Or.inl ⟨by rfl, ?_⟩; intro w hSw; (try dsimp only at hSw); first | (go_simp; done) | (go_simp; with_reducible rfl))
    try simp only [Act.put, List.setIfInBounds_toArray, List.set_cons_zero, List.set_cons_succ]
    refine held_call 7 rfl (by kernel_rfl) (fun K hK => ?_)
    obtain ⟨q0, q1, q2, hq⟩ := hHeld.2.2.2.2.2.2.2
    obtain ⟨y0, y1, y2, y3, y4, y5⟩ := hq.three
    have HP := Lib.hid (natV_set3 (NatV.keep (w := w4) ⟨ap, cp, rfl, hsp⟩ (Below.refl _ _)) hq (.inl (FreshV.low hfp (by have h1 := HSZ.out; simp; omega))) (.bool n1) (.slice ap (digs (X + Y)).length cp) (.slice az lz cz))
    have HZ2 := Lib.hid (natV_set3 hHeld.2.2.2.2.2.2.1 hq (.inl (FreshV.low HFZ.out (Nat.le_refl _))) (.bool n1) (.slice ap (digs (X + Y)).length cp) (.slice az lz cz))
    have HQ := Lib.hid (hq.set3 (.bool n1) (.slice ap (digs (X + Y)).length cp) (.slice az lz cz))
    have HBW2 := Lib.hid (below_set3 hHeld.2.2.2.2.1 (Nat.le_add_right w.heap.size 2) (.bool n1) (.slice ap (digs (X + Y)).length cp) (.slice az lz cz))
    have HT := Lib.hid (hHeld.2.2.1.other3 (show w.heap.size + 1 + 1 ≠ w.heap.size by omega) (.bool n1) (.slice ap (digs (X + Y)).length cp) (.slice az lz cz))
    have HT2 := Lib.hid (hHeld.2.2.2.1.other3 (show w.heap.size + 1 + 1 ≠ w.heap.size + 1 by omega) (.bool n1) (.slice ap (digs (X + Y)).length cp) (.slice az lz cz))
    go_simp
    refine hK.out _ _ ?_ (fun hHeld2 => ?_)
    · exact ⟨HT.out.three.1, HT2.out.three.1, HT.out, HT2.out, HBW2.out, by simpa using hHeld.2.2.2.2.2.1, HZ2.out, _, _, _, HQ.out⟩
    clear hK K hHeld hHeld2 y0 y1 y2 y3 y4 y5 hsp hq
    refine wpAnyH_done (by kernel_rfl) ?_ _
    obtain ⟨y0, y1, y2, y3, y4, y5⟩ := HQ.out.three
    go_wp2_with fail
    exact bodyPost_ret (v := .agg #[.bool n1, .slice ap (digs (X + Y)).length cp, .slice az lz cz]) (by simp [results, Tryd.results38, go_sem, y0, y1, y2]) rfl ⟨_, rfl, ⟨_, _, rfl, HP.out, HZ2.out⟩, HBW2.out⟩
  · have hq : (n1 == n2) = false := by simpa using h12
    rw [if_neg h12] at hs
    obtain ⟨hv, hhv⟩ : ∃ x, x = heldI X Y := ⟨_, rfl⟩
    rw [← hhv] at cH
    by_cases hle : Y ≤ X
    · rw [if_pos hle] at hs
      subst hs
      have cP := cP2 hle
      have hv1 : 0 ≤ hv := by rw [hhv]; unfold heldI; rw [if_neg (by omega)]; split <;> decide
      clear cP1 cP2 cP3 h12 hhv hle HS
      go_wp2_with fail
      with_reducible refine cH.mono ?_
      rintro e w4 ⟨rfl, rfl⟩
      clear cH
      go_wp2_with fail
      refine wp_region_held_drew (S := (fun (w' : World) => w'.cell? ⟨w.heap.size, 0, none⟩ = some (.bool n1) ∧ w'.cell? ⟨w.heap.size + 1, 0, none⟩ = some (.bool n2) ∧ Blk w' w.heap.size #[.bool n1, .slice aa la ca, .slice ad ld cd] ∧ Blk w' (w.heap.size + 1) #[.bool n2, .slice ab lb cb, .slice ae le ce] ∧ Below w.heap.size w w' ∧ w.heap.size + 3 ≤ w'.heap.size ∧ NatV w' (.slice az lz cz) (D * E) ∧ ∃ x y z, Blk w' (w.heap.size + 1 + 1) #[x, y, z])) (by kernel_rfl) ⟨x0, x1', (T0.out).keep (Below.refl _ _).drew (Nat.le_refl _), (T1.out).keep (Below.refl _ _).drew (Nat.le_refl _), HBW.out.drew, HSZ.out, NatV.keep HZ.out (Below.refl _ _).drew, _, _, _, (T2.out).keep (Below.refl _ _).drew (Nat.le_refl _)⟩ (fun hHeld => ?_)
      refine held_take 0 (v := ?_) rfl (by kernel_rfl) (by kernel_rfl) (by kernel_rfl) (fun _ _ _ h => h) (by assumption) ?_ ?_
      rotate_left
      · first | (refine Or.inr ⟨?_, ?_⟩ <;> rfl) | (refine Or.inl ⟨by rfl, ?_⟩; intro w hSw; (try dsimp only at hSw); first | (go_simp; done) | (go_simp; with_reducible rfl))
      try simp only [Act.put, List.setIfInBounds_toArray, List.set_cons_zero, List.set_cons_succ]
      refine held_take 1 (v := ?_) rfl (by kernel_rfl) (by kernel_rfl) (by kernel_rfl) (fun _ _ _ h => h) (by assumption) ?_ ?_
      rotate_left
      · first | (refine Or.inr ⟨?_, ?_⟩ <;> rfl) | (refine Or.inl ⟨by rfl, ?_⟩; intro w hSw; (try dsimp only at hSw); first | (go_simp; done) | (go_simp; with_reducible rfl))
      try simp only [Act.put, List.setIfInBounds_toArray, List.set_cons_zero, List.set_cons_succ]
      refine held_take 2 (v := ?_) rfl (by kernel_rfl) (by kernel_rfl) (by kernel_rfl) (fun _ _ _ h => h) (by assumption) ?_ ?_
      rotate_left
      · first | (refine Or.inr ⟨?_, ?_⟩ <;> rfl) | (refine Or.inl ⟨by rfl, ?_⟩; intro w hSw; (try dsimp only at hSw); first | (go_simp; done) | (go_simp; with_reducible rfl))
      try simp only [Act.put, List.setIfInBounds_toArray, List.set_cons_zero, List.set_cons_succ]
      refine held_take 3 (v := ?_) rfl (by kernel_rfl) (by kernel_rfl) (by kernel_rfl) (fun _ _ _ h => h) (by assumption) ?_ ?_
      rotate_left
      · first | (refine Or.inr ⟨?_, ?_⟩ <;> rfl) | (refine Or.inl ⟨by rfl, ?_⟩; intro w hSw; (try dsimp only at hSw); first | (go_simp; done) | (go_simp; with_reducible rfl))
      try simp only [Act.put, List.setIfInBounds_toArray, List.set_cons_zero, List.set_cons_succ]
      refine held_take 5 (v := ?_) rfl (by kernel_rfl) (by kernel_rfl) (by kernel_rfl) (fun _ _ _ h => h) (by assumption) ?_ ?_
      rotate_left
      · first | (refine Or.inr ⟨?_, ?_⟩ <;> rfl) | (refine Or.inl ⟨by rfl, ?_⟩; intro w hSw; (try dsimp only at hSw); first | (go_simp; done) | (go_simp; with_reducible rfl))
      try simp only [Act.put, List.setIfInBounds_toArray, List.set_cons_zero, List.set_cons_succ]
      refine held_call 4 rfl (by kernel_rfl) (fun K hK => ?_)
      go_simp
      with_reducible refine ((cP _ (Below.refl _ _).drew)).mono ?_
      rintro e w4 ⟨_, rfl, ⟨ap, cp, rfl, hsp⟩, hfp, hbk⟩
      have hb4 := hbk
      refine hK.out _ _ ?_ (fun hHeld => ?_)
      · first | exact hHeld | exact ⟨cell_keep' hHeld.1 hbk, cell_keep' hHeld.2.1 hbk, hHeld.2.2.1.keep hbk (Nat.le_refl _), hHeld.2.2.2.1.keep hbk (Nat.le_refl _), bstep hHeld.2.2.2.2.1 hbk (Nat.le_refl _), Nat.le_trans hHeld.2.2.2.2.2.1 hbk.size, hHeld.2.2.2.2.2.2.1.keep hbk, hHeld.2.2.2.2.2.2.2.imp fun _ => Exists.imp fun _ => Exists.imp fun _ h => h.keep hbk (Nat.le_refl _)⟩
      clear hK K
      try simp only [Act.put, List.setIfInBounds_toArray, List.set_cons_zero, List.set_cons_succ]
      refine held_take 6 (v := ?_) rfl (by kernel_rfl) (by kernel_rfl) (by kernel_rfl) (fun _ _ _ h => h) (by assumption) ?_ ?_
      rotate_left
      · first | (refine Or.inr ⟨?_, ?_⟩ <;> rfl) | (refine Or.inl ⟨by rfl, ?_⟩; intro w hSw; (try dsimp only at hSw); first | (go_simp; done) | (go_simp; with_reducible rfl))
      try simp only [Act.put, List.setIfInBounds_toArray, List.set_cons_zero, List.set_cons_succ]
      refine held_call 7 rfl (by kernel_rfl) (fun K hK => ?_)
      obtain ⟨q0, q1, q2, hq⟩ := hHeld.2.2.2.2.2.2.2
      obtain ⟨y0, y1, y2, y3, y4, y5⟩ := hq.three
      have HP := Lib.hid (natV_set3 (NatV.keep (w := w4) ⟨ap, cp, rfl, hsp⟩ (Below.refl _ _)) hq (.inl (FreshV.low hfp (by have h1 := HSZ.out; simp; omega))) (.bool n1) (.slice ap (digs (X - Y)).length cp) (.slice az lz cz))
      have HZ2 := Lib.hid (natV_set3 hHeld.2.2.2.2.2.2.1 hq (.inl (FreshV.low HFZ.out (Nat.le_refl _))) (.bool n1) (.slice ap (digs (X - Y)).length cp) (.slice az lz cz))
      have HQ := Lib.hid (hq.set3 (.bool n1) (.slice ap (digs (X - Y)).length cp) (.slice az lz cz))
      have HBW2 := Lib.hid (below_set3 hHeld.2.2.2.2.1 (Nat.le_add_right w.heap.size 2) (.bool n1) (.slice ap (digs (X - Y)).length cp) (.slice az lz cz))
      have HT := Lib.hid (hHeld.2.2.1.other3 (show w.heap.size + 1 + 1 ≠ w.heap.size by omega) (.bool n1) (.slice ap (digs (X - Y)).length cp) (.slice az lz cz))
      have HT2 := Lib.hid (hHeld.2.2.2.1.other3 (show w.heap.size + 1 + 1 ≠ w.heap.size + 1 by omega) (.bool n1) (.slice ap (digs (X - Y)).length cp) (.slice az lz cz))
      go_simp
      refine hK.out _ _ ?_ (fun hHeld2 => ?_)
      · exact ⟨HT.out.three.1, HT2.out.three.1, HT.out, HT2.out, HBW2.out, by simpa using hHeld.2.2.2.2.2.1, HZ2.out, _, _, _, HQ.out⟩
      clear hK K hHeld hHeld2 y0 y1 y2 y3 y4 y5 hsp hq
      refine wpAnyH_done (by kernel_rfl) ?_ _
      obtain ⟨y0, y1, y2, y3, y4, y5⟩ := HQ.out.three
      go_wp2_with fail
      exact bodyPost_ret (v := .agg #[.bool n1, .slice ap (digs (X - Y)).length cp, .slice az lz cz]) (by simp [results, Tryd.results38, go_sem, y0, y1, y2]) rfl ⟨_, rfl, ⟨_, _, rfl, HP.out, HZ2.out⟩, HBW2.out⟩
    · rw [if_neg hle] at hs
      subst hs
      have cP := cP3 (by omega)
      have hv1 : hv = -1 := by rw [hhv]; unfold heldI; rw [if_pos (by omega)]
      subst hv1
      clear cP1 cP2 cP3 h12 hhv hle HS
      go_wp2_with fail
      with_reducible refine cH.mono ?_
      rintro e w4 ⟨rfl, rfl⟩
      clear cH
      go_wp2_with fail
      refine wp_region_held_drew (S := (fun (w' : World) => w'.cell? ⟨w.heap.size, 0, none⟩ = some (.bool n1) ∧ w'.cell? ⟨w.heap.size + 1, 0, none⟩ = some (.bool n2) ∧ Blk w' w.heap.size #[.bool n1, .slice aa la ca, .slice ad ld cd] ∧ Blk w' (w.heap.size + 1) #[.bool n2, .slice ab lb cb, .slice ae le ce] ∧ Below w.heap.size w w' ∧ w.heap.size + 3 ≤ w'.heap.size ∧ NatV w' (.slice az lz cz) (D * E) ∧ ∃ x y z, Blk w' (w.heap.size + 1 + 1) #[x, y, z])) (by kernel_rfl) ⟨x0, x1', (T0.out).keep (Below.refl _ _).drew (Nat.le_refl _), (T1.out).keep (Below.refl _ _).drew (Nat.le_refl _), HBW.out.drew, HSZ.out, NatV.keep HZ.out (Below.refl _ _).drew, _, _, _, (T2.out).keep (Below.refl _ _).drew (Nat.le_refl _)⟩ (fun hHeld => ?_)
      refine held_take 0 (v := ?_) rfl (by kernel_rfl) (by kernel_rfl) (by kernel_rfl) (fun _ _ _ h => h) (by assumption) ?_ ?_
      rotate_left
      · first | (refine Or.inr ⟨?_, ?_⟩ <;> rfl) | (refine Or.inl ⟨by rfl, ?_⟩; intro w hSw; (try dsimp only at hSw); first | (go_simp; done) | (go_simp; with_reducible rfl))
      try simp only [Act.put, List.setIfInBounds_toArray, List.set_cons_zero, List.set_cons_succ]
      refine held_take 1 (v := ?_) rfl (by kernel_rfl) (by kernel_rfl) (by kernel_rfl) (fun _ _ _ h => h) (by assumption) ?_ ?_
      rotate_left
      · first | (refine Or.inr ⟨?_, ?_⟩ <;> rfl) | (refine Or.inl ⟨by rfl, ?_⟩; intro w hSw; (try dsimp only at hSw); first | (go_simp; done) | (go_simp; with_reducible rfl))
      try simp only [Act.put, List.setIfInBounds_toArray, List.set_cons_zero, List.set_cons_succ]
      refine held_take 2 (v := ?_) rfl (by kernel_rfl) (by kernel_rfl) (by kernel_rfl) (fun _ _ _ h => h) (by assumption) ?_ ?_
      rotate_left
      · first | (refine Or.inr ⟨?_, ?_⟩ <;> rfl) | (refine Or.inl ⟨by rfl, ?_⟩; intro w hSw; (try dsimp only at hSw); first | (go_simp; done) | (go_simp; with_reducible rfl))
      try simp only [Act.put, List.setIfInBounds_toArray, List.set_cons_zero, List.set_cons_succ]
      refine held_take 3 (v := ?_) rfl (by kernel_rfl) (by kernel_rfl) (by kernel_rfl) (fun _ _ _ h => h) (by assumption) ?_ ?_
      rotate_left
      · first | (refine Or.inr ⟨?_, ?_⟩ <;> rfl) | (refine Or.inl ⟨by rfl, ?_⟩; intro w hSw; (try dsimp only at hSw); first | (go_simp; done) | (go_simp; with_reducible rfl))
      try simp only [Act.put, List.setIfInBounds_toArray, List.set_cons_zero, List.set_cons_succ]
      refine held_take 5 (v := ?_) rfl (by kernel_rfl) (by kernel_rfl) (by kernel_rfl) (fun _ _ _ h => h) (by assumption) ?_ ?_
      rotate_left
      · first | (refine Or.inr ⟨?_, ?_⟩ <;> rfl) | (refine Or.inl ⟨by rfl, ?_⟩; intro w hSw; (try dsimp only at hSw); first | (go_simp; done) | (go_simp; with_reducible rfl))
      try simp only [Act.put, List.setIfInBounds_toArray, List.set_cons_zero, List.set_cons_succ]
      refine held_call 4 rfl (by kernel_rfl) (fun K hK => ?_)
      go_simp
      with_reducible refine ((cP _ (Below.refl _ _).drew)).mono ?_
      rintro e w4 ⟨_, rfl, ⟨ap, cp, rfl, hsp⟩, hfp, hbk⟩
      have hb4 := hbk
      refine hK.out _ _ ?_ (fun hHeld => ?_)
      · first | exact hHeld | exact ⟨cell_keep' hHeld.1 hbk, cell_keep' hHeld.2.1 hbk, hHeld.2.2.1.keep hbk (Nat.le_refl _), hHeld.2.2.2.1.keep hbk (Nat.le_refl _), bstep hHeld.2.2.2.2.1 hbk (Nat.le_refl _), Nat.le_trans hHeld.2.2.2.2.2.1 hbk.size, hHeld.2.2.2.2.2.2.1.keep hbk, hHeld.2.2.2.2.2.2.2.imp fun _ => Exists.imp fun _ => Exists.imp fun _ h => h.keep hbk (Nat.le_refl _)⟩
      clear hK K
      try simp only [Act.put, List.setIfInBounds_toArray, List.set_cons_zero, List.set_cons_succ]
      refine held_take 6 (v := ?_) rfl (by kernel_rfl) (by kernel_rfl) (by kernel_rfl) (fun _ _ _ h => h) (by assumption) ?_ ?_
      rotate_left
      · first | (refine Or.inr ⟨?_, ?_⟩ <;> rfl) | (refine Or.inl ⟨by rfl, ?_⟩; intro w hSw; (try dsimp only at hSw); first | (go_simp; done) | (go_simp; with_reducible rfl))
      try simp only [Act.put, List.setIfInBounds_toArray, List.set_cons_zero, List.set_cons_succ]
      refine held_call 7 rfl (by kernel_rfl) (fun K hK => ?_)
      obtain ⟨q0, q1, q2, hq⟩ := hHeld.2.2.2.2.2.2.2
      obtain ⟨y0, y1, y2, y3, y4, y5⟩ := hq.three
      have HP := Lib.hid (natV_set3 (NatV.keep (w := w4) ⟨ap, cp, rfl, hsp⟩ (Below.refl _ _)) hq (.inl (FreshV.low hfp (by have h1 := HSZ.out; simp; omega))) (.bool n2) (.slice ap (digs (Y - X)).length cp) (.slice az lz cz))
      have HZ2 := Lib.hid (natV_set3 hHeld.2.2.2.2.2.2.1 hq (.inl (FreshV.low HFZ.out (Nat.le_refl _))) (.bool n2) (.slice ap (digs (Y - X)).length cp) (.slice az lz cz))
      have HQ := Lib.hid (hq.set3 (.bool n2) (.slice ap (digs (Y - X)).length cp) (.slice az lz cz))
      have HBW2 := Lib.hid (below_set3 hHeld.2.2.2.2.1 (Nat.le_add_right w.heap.size 2) (.bool n2) (.slice ap (digs (Y - X)).length cp) (.slice az lz cz))
      have HT := Lib.hid (hHeld.2.2.1.other3 (show w.heap.size + 1 + 1 ≠ w.heap.size by omega) (.bool n2) (.slice ap (digs (Y - X)).length cp) (.slice az lz cz))
      have HT2 := Lib.hid (hHeld.2.2.2.1.other3 (show w.heap.size + 1 + 1 ≠ w.heap.size + 1 by omega) (.bool n2) (.slice ap (digs (Y - X)).length cp) (.slice az lz cz))
      go_simp
      refine hK.out _ _ ?_ (fun hHeld2 => ?_)
      · exact ⟨HT.out.three.1, HT2.out.three.1, HT.out, HT2.out, HBW2.out, by simpa using hHeld.2.2.2.2.2.1, HZ2.out, _, _, _, HQ.out⟩
      clear hK K hHeld hHeld2 y0 y1 y2 y3 y4 y5 hsp hq
      refine wpAnyH_done (by kernel_rfl) ?_ _
      obtain ⟨y0, y1, y2, y3, y4, y5⟩ := HQ.out.three
      go_wp2_with fail
      exact bodyPost_ret (v := .agg #[.bool n2, .slice ap (digs (Y - X)).length cp, .slice az lz cz]) (by simp [results, Tryd.results38, go_sem, y0, y1, y2]) rfl ⟨_, rfl, ⟨_, _, rfl, HP.out, HZ2.out⟩, HBW2.out⟩
end Go.Proofs.YtaipghojggiopaaDoor
