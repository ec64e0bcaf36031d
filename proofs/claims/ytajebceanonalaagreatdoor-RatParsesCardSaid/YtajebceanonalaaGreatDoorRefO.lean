/-
  The reference's Of, opposite: contracts.
-/
import Derived.Test.YtajebceanonalaaGreatDoorNatT
import Derived.Test.YtajebceanonalaaGreatDoorNatH
namespace Go.Proofs.YtajebceanonalaaGreatDoor
set_option linter.unusedVariables false
open Go.RowKit

/-- a fraction of the reference: its sign, its two numbers -/
def FracV (w : World) (v : Value) (neg : Bool) (N D : Nat) : Prop := ∃ x y, v = .agg #[.bool neg, x, y] ∧ NatV w x N ∧ NatV w y D
theorem FracV.keep {w w' : World} {v : Value} {neg : Bool} {N D : Nat} (h : FracV w v neg N D) (hb : Below w.heap.size w w') : FracV w' v neg N D := by
  obtain ⟨x, y, e, h1, h2⟩ := h
  exact ⟨x, y, e, h1.keep hb, h2.keep hb⟩
def RetFrac (w : World) (neg : Bool) (N D : Nat) (e : Ending) (w' : World) : Prop := ∃ v, e = .returned v ∧ FracV w' v neg N D ∧ Below w.heap.size w w'
theorem natV_low {w : World} {v : Value} {n : Nat} (h : NatV w v n) {g q : Nat} {u : Value} (hg : ∀ ad k c, v = .slice (some ad) k c → ad.block ≠ g) : NatV (w.setCell ⟨g, q, none⟩ u) v n :=
  natV_set (len := 0) (cap := 0) h fun ad k c e1 bd k' c' e2 => by
    cases e2
    exact hg ad k c e1
theorem natV_set3 {w : World} {v : Value} {n : Nat} (h : NatV w v n) {g : Nat} {cs : Array Value} (hg : Blk w g cs) (hT : FreshV (g + 1) v ∨ BelowV g v) (a b c : Value) :
    NatV (((w.setCell ⟨g, 0, none⟩ a).setCell ⟨g, 1, none⟩ b).setCell ⟨g, 2, none⟩ c) v n := by
  have hne : ∀ ad k c, v = .slice (some ad) k c → ad.block ≠ g := fun ad k c e => by
    rcases hT with h1 | h1
    · have := h1 ad k c e; omega
    · have := h1 ad k c e; omega
  exact natV_low (natV_low (natV_low h hne) hne) hne
theorem FreshV.low {B B' : Nat} {v : Value} (h : FreshV B v) (hb : B' ≤ B) : FreshV B' v := fun a n c e => Nat.le_trans hb (h a n c e)
theorem Blk.set {w : World} {k : Nat} {cs : Array Value} (h : Blk w k cs) (j : Nat) (v : Value) : Blk (w.setCell ⟨k, j, none⟩ v) k (cs.setIfInBounds j v) := by
  obtain ⟨T, h⟩ := h
  refine ⟨T, ?_⟩
  simp [World.setCell, Array.getElem?_modify, h]
theorem Blk.set3 {w : World} {k : Nat} {x y z : Value} (h : Blk w k #[x, y, z]) (a b c : Value) : Blk (((w.setCell ⟨k, 0, none⟩ a).setCell ⟨k, 1, none⟩ b).setCell ⟨k, 2, none⟩ c) k #[a, b, c] := ((h.set 0 a).set 1 b).set 2 c
theorem Blk.other3 {w : World} {k g : Nat} {cs : Array Value} (h : Blk w k cs) (hg : g ≠ k) (a b c : Value) : Blk (((w.setCell ⟨g, 0, none⟩ a).setCell ⟨g, 1, none⟩ b).setCell ⟨g, 2, none⟩ c) k cs := ((h.other hg a).other hg b).other hg c
theorem below_set3 {B g : Nat} {w w' : World} (h : Below B w w') (hg : B ≤ g) (a b c : Value) : Below B w (((w'.setCell ⟨g, 0, none⟩ a).setCell ⟨g, 1, none⟩ b).setCell ⟨g, 2, none⟩ c) := ((h.setCell hg a).setCell hg b).setCell hg c



set_option maxRecDepth 100000 in
set_option maxHeartbeats 2000000 in
theorem of_any (n d : Int) (hn : In64 n) (hd : In64 d) (w : World) :
    Calls Tryz.prog 124 #[.agg #[.int .i64 n, .int .i64 d]] w (RetFrac w (decide (n < 0)) n.natAbs d.natAbs) := by
  unfold In64 at hn hd
  have s1 := refsize_any n hn
  have s2 := refsize_any d hd
  have hnl : n.natAbs < 18446744073709551616 := by omega
  have hdl : d.natAbs < 18446744073709551616 := by omega
  generalize n.natAbs = N at *
  generalize d.natAbs = D at *
  obtain ⟨ta, tr, hsz, hbw⟩ := box2 w #[.int .i64 n, .int .i64 d] #[.bool false, .slice none 0 0, .slice none 0 0] 23 60
  have TA := Lib.hid ta
  have TR := Lib.hid tr
  have HB := Lib.hid hbw
  have HSZ := Lib.hid hsz
  clear ta tr hsz hbw
  go_enter Tryz.func124, Tryz.ntmps124
  go_wp2_with fail
  generalize (w.alloc (.cells #[.int .i64 n, .int .i64 d] 23)).alloc (.cells #[.bool false, .slice none 0 0, .slice none 0 0] 60) = W at *
  obtain ⟨f0, f1, f2, f3⟩ := TA.out.two
  refine wp_region_held_drew (S := (fun (w' : World) => w'.cell? ⟨w.heap.size, 0, none⟩ = some (.int .i64 n) ∧ w'.cell? ⟨w.heap.size, 1, none⟩ = some (.int .i64 d) ∧ Blk w' w.heap.size #[.int .i64 n, .int .i64 d] ∧ Below w.heap.size w w' ∧ w.heap.size + 2 ≤ w'.heap.size ∧ ∃ x y z, Blk w' (w.heap.size + 1) #[x, y, z])) (by kernel_rfl) ⟨f0, f1, TA.out.keep (Below.refl _ _).drew (Nat.le_refl _), HB.out.drew, Nat.le_of_eq HSZ.out.symm, _, _, _, TR.out.keep (Below.refl _ _).drew (Nat.le_refl _)⟩ (fun hHeld => ?_)
  refine held_take 0 (v := ?_) rfl (by kernel_rfl) (by kernel_rfl) (by kernel_rfl) (fun _ _ _ h => h) (by assumption) ?_ ?_
  rotate_left
  · first | (refine Or.inr ⟨?_, ?_⟩ <;> rfl) | (refine Or.inl ⟨by rfl, ?_⟩; intro w hSw; (try dsimp only at hSw); first | (go_simp; done) | (go_simp; with_reducible rfl))
  try simp only [Act.put, List.setIfInBounds_toArray, List.set_cons_zero, List.set_cons_succ]
  refine held_take 1 (v := ?_) rfl (by kernel_rfl) (by kernel_rfl) (by kernel_rfl) (fun _ _ _ h => h) (by assumption) ?_ ?_
  rotate_left
  · first | (refine Or.inr ⟨?_, ?_⟩ <;> rfl) | (refine Or.inl ⟨by rfl, ?_⟩; intro w hSw; (try dsimp only at hSw); first | (go_simp; done) | (go_simp; with_reducible rfl))
  try simp only [Act.put, List.setIfInBounds_toArray, List.set_cons_zero, List.set_cons_succ]
  refine held_take 2 (v := ?_) rfl (by kernel_rfl) (by kernel_rfl) (by kernel_rfl) (fun _ _ _ h => h) (by assumption) ?_ ?_
  rotate_left
  · first | (refine Or.inr ⟨?_, ?_⟩ <;> rfl) | (refine Or.inl ⟨by rfl, ?_⟩; intro w hSw; (try dsimp only at hSw); first | (go_simp; done) | (go_simp; with_reducible rfl))
  try simp only [Act.put, List.setIfInBounds_toArray, List.set_cons_zero, List.set_cons_succ]
  refine held_take 3 (v := ?_) rfl (by kernel_rfl) (by kernel_rfl) (by kernel_rfl) (fun _ _ _ h => h) (by assumption) ?_ ?_
  rotate_left
  · first | (refine Or.inr ⟨?_, ?_⟩ <;> rfl) | (refine Or.inl ⟨by rfl, ?_⟩; intro w hSw; (try dsimp only at hSw); first | (go_simp; done) | (go_simp; with_reducible rfl))
  try simp only [Act.put, List.setIfInBounds_toArray, List.set_cons_zero, List.set_cons_succ]
  refine held_take 4 (v := ?_) rfl (by kernel_rfl) (by kernel_rfl) (by kernel_rfl) (fun _ _ _ h => h) (by assumption) ?_ ?_
  rotate_left
  · first | (refine Or.inr ⟨?_, ?_⟩ <;> rfl) | (refine Or.inl ⟨by rfl, ?_⟩; intro w hSw; (try dsimp only at hSw); first | (go_simp; done) | (go_simp; with_reducible rfl))
  try simp only [Act.put, List.setIfInBounds_toArray, List.set_cons_zero, List.set_cons_succ]
  refine held_take 7 (v := ?_) rfl (by kernel_rfl) (by kernel_rfl) (by kernel_rfl) (fun _ _ _ h => h) (by assumption) ?_ ?_
  rotate_left
  · first | (refine Or.inr ⟨?_, ?_⟩ <;> rfl) | (refine Or.inl ⟨by rfl, ?_⟩; intro w hSw; (try dsimp only at hSw); first | (go_simp; done) | (go_simp; with_reducible rfl))
  try simp only [Act.put, List.setIfInBounds_toArray, List.set_cons_zero, List.set_cons_succ]
  refine held_take 8 (v := ?_) rfl (by kernel_rfl) (by kernel_rfl) (by kernel_rfl) (fun _ _ _ h => h) (by assumption) ?_ ?_
  rotate_left
  · first | (refine Or.inr ⟨?_, ?_⟩ <;> rfl) | (refine Or.inl ⟨by rfl, ?_⟩; intro w hSw; (try dsimp only at hSw); first | (go_simp; done) | (go_simp; with_reducible rfl))
  try simp only [Act.put, List.setIfInBounds_toArray, List.set_cons_zero, List.set_cons_succ]
  refine held_call 5 rfl (by kernel_rfl) (fun K hK => ?_)
  go_simp
  with_reducible refine (s1 _).mono ?_
  rintro e w1 ⟨rfl, rfl⟩
  refine hK.out _ _ ?_ (fun hHeld => ?_)
  · first | exact hHeld | exact ⟨cell_keep' hHeld.1 hbk, cell_keep' hHeld.2.1 hbk, hHeld.2.2.1.keep hbk (Nat.le_refl _), bstep hHeld.2.2.2.1 hbk (Nat.le_refl _), Nat.le_trans hHeld.2.2.2.2.1 hbk.size, hHeld.2.2.2.2.2.imp fun _ => Exists.imp fun _ => Exists.imp fun _ h => h.keep hbk (Nat.le_refl _)⟩
  clear hK K
  try simp only [Act.put, List.setIfInBounds_toArray, List.set_cons_zero, List.set_cons_succ]
  refine held_call 6 rfl (by kernel_rfl) (fun K hK => ?_)
  go_simp
  with_reducible refine (from_any N hnl _).mono ?_
  rintro e w2 ⟨_, rfl, ⟨a2, c2, rfl, hs2⟩, hf2, hbk⟩
  have hb2 := hbk
  refine hK.out _ _ ?_ (fun hHeld => ?_)
  · first | exact hHeld | exact ⟨cell_keep' hHeld.1 hbk, cell_keep' hHeld.2.1 hbk, hHeld.2.2.1.keep hbk (Nat.le_refl _), bstep hHeld.2.2.2.1 hbk (Nat.le_refl _), Nat.le_trans hHeld.2.2.2.2.1 hbk.size, hHeld.2.2.2.2.2.imp fun _ => Exists.imp fun _ => Exists.imp fun _ h => h.keep hbk (Nat.le_refl _)⟩
  clear hK K
  try simp only [Act.put, List.setIfInBounds_toArray, List.set_cons_zero, List.set_cons_succ]
  refine held_call 9 rfl (by kernel_rfl) (fun K hK => ?_)
  go_simp
  with_reducible refine (s2 _).mono ?_
  rintro e w1 ⟨rfl, rfl⟩
  refine hK.out _ _ ?_ (fun hHeld => ?_)
  · first | exact hHeld | exact ⟨cell_keep' hHeld.1 hbk, cell_keep' hHeld.2.1 hbk, hHeld.2.2.1.keep hbk (Nat.le_refl _), bstep hHeld.2.2.2.1 hbk (Nat.le_refl _), Nat.le_trans hHeld.2.2.2.2.1 hbk.size, hHeld.2.2.2.2.2.imp fun _ => Exists.imp fun _ => Exists.imp fun _ h => h.keep hbk (Nat.le_refl _)⟩
  clear hK K
  try simp only [Act.put, List.setIfInBounds_toArray, List.set_cons_zero, List.set_cons_succ]
  refine held_call 10 rfl (by kernel_rfl) (fun K hK => ?_)
  go_simp
  with_reducible refine (from_any D hdl _).mono ?_
  rintro e w3 ⟨_, rfl, ⟨a3, c3, rfl, hs3⟩, hf3, hbk⟩
  have hb3 := hbk
  refine hK.out _ _ ?_ (fun hHeld => ?_)
  · first | exact hHeld | exact ⟨cell_keep' hHeld.1 hbk, cell_keep' hHeld.2.1 hbk, hHeld.2.2.1.keep hbk (Nat.le_refl _), bstep hHeld.2.2.2.1 hbk (Nat.le_refl _), Nat.le_trans hHeld.2.2.2.2.1 hbk.size, hHeld.2.2.2.2.2.imp fun _ => Exists.imp fun _ => Exists.imp fun _ h => h.keep hbk (Nat.le_refl _)⟩
  clear hK K
  try simp only [Act.put, List.setIfInBounds_toArray, List.set_cons_zero, List.set_cons_succ]
  refine held_take 11 (v := ?_) rfl (by kernel_rfl) (by kernel_rfl) (by kernel_rfl) (fun _ _ _ h => h) (by assumption) ?_ ?_
  rotate_left
  · first | (refine Or.inr ⟨?_, ?_⟩ <;> rfl) | (refine Or.inl ⟨by rfl, ?_⟩; intro w hSw; (try dsimp only at hSw); first | (go_simp; done) | (go_simp; with_reducible rfl))
  try simp only [Act.put, List.setIfInBounds_toArray, List.set_cons_zero, List.set_cons_succ]
  refine held_call 12 rfl (by kernel_rfl) (fun K hK => ?_)
  obtain ⟨q0, q1, q2, hq⟩ := hHeld.2.2.2.2.2
  obtain ⟨B, hB⟩ : ∃ B, B = w.heap.size := ⟨_, rfl⟩
  obtain ⟨y0, y1, y2, y3, y4, y5⟩ := hq.three
  have HS2 := Lib.hid (natV_set3 (NatV.keep (w := w1) ⟨a2, c2, rfl, hs2⟩ hb3) hq (.inl (FreshV.low hf2 (by simp [HSZ.out]))) (.bool (decide (n < 0))) (.slice a2 (digs N).length c2) (.slice a3 (digs D).length c3))
  have HS3 := Lib.hid (natV_set3 (w := w3) ⟨a3, c3, rfl, hs3⟩ hq (.inl (FreshV.low hf3 (by have h1 : W.heap.size ≤ w1.heap.size := hb2.size; have h2 := HSZ.out; omega))) (.bool (decide (n < 0))) (.slice a2 (digs N).length c2) (.slice a3 (digs D).length c3))
  have HQ := Lib.hid (hq.set3 (.bool (decide (n < 0))) (.slice a2 (digs N).length c2) (.slice a3 (digs D).length c3))
  have HBW := Lib.hid (below_set3 hHeld.2.2.2.1 (Nat.le_add_right w.heap.size 1) (.bool (decide (n < 0))) (.slice a2 (digs N).length c2) (.slice a3 (digs D).length c3))
  have HT := Lib.hid (hHeld.2.2.1.other3 (Nat.ne_of_gt (Nat.lt_succ_self w.heap.size)) (.bool (decide (n < 0))) (.slice a2 (digs N).length c2) (.slice a3 (digs D).length c3))
  go_simp
  refine hK.out _ _ ?_ (fun hHeld2 => ?_)
  · exact ⟨HT.out.two.1, HT.out.two.2.1, HT.out, HBW.out, by simpa using hHeld.2.2.2.2.1, _, _, _, HQ.out⟩
  clear hK K hHeld hHeld2 y0 y1 y2 y3 y4 y5 hs2 hs3 hq
  refine wpAnyH_done (by kernel_rfl) ?_ _
  obtain ⟨y0, y1, y2, y3, y4, y5⟩ := HQ.out.three
  go_wp2_with fail
  exact bodyPost_ret (v := .agg #[.bool (decide (n < 0)), .slice a2 (digs N).length c2, .slice a3 (digs D).length c3]) (by simp [results, Tryz.results124, go_sem, y0, y1, y2]) rfl ⟨_, rfl, ⟨_, _, rfl, HS2.out, HS3.out⟩, HBW.out⟩
end Go.Proofs.YtajebceanonalaaGreatDoor
