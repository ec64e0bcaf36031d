/-
  The reference's Print: contract.
-/
import Derived.Test.YtlgbgobpdkilaaaGreatDoorNatT
import Derived.Test.YtlgbgobpdkilaaaGreatDoorNatH
import Derived.Test.YtlgbgobpdkilaaaGreatDoorTxtP

namespace Go.Proofs.YtlgbgobpdkilaaaGreatDoor
set_option linter.unusedVariables false
open Go.RowKit

/-- a fraction of the reference: its sign, its two numbers -/
def FracV (w : World) (v : Value) (neg : Bool) (N D : Nat) : Prop := ∃ x y, v = .agg #[.bool neg, x, y] ∧ NatV w x N ∧ NatV w y D
theorem FracV.keep {w w' : World} {v : Value} {neg : Bool} {N D : Nat} (h : FracV w v neg N D) (hb : Below w.heap.size w w') : FracV w' v neg N D := by
  obtain ⟨x, y, e, h1, h2⟩ := h
  exact ⟨x, y, e, h1.keep hb, h2.keep hb⟩
def RetFrac (w : World) (neg : Bool) (N D : Nat) (e : Ending) (w' : World) : Prop := ∃ v, e = .returned v ∧ FracV w' v neg N D ∧ Below w.heap.size w w'
theorem natV_low {w : World} {v : Value} {n : Nat} (h : NatV w v n) {g q : Nat} {u : Value} (hg : ∀ ad k c, v = .slice (some ad) k c → ad.block ≠ g) : NatV (w.setCell ⟨g, q, none⟩ u) v n :=
  natV_set (len := 0) (cap := 0) h fun ad k c e1 bd k' c' e2 => by
    cases e2
    exact hg ad k c e1
theorem natV_set3 {w : World} {v : Value} {n : Nat} (h : NatV w v n) {g : Nat} {cs : Array Value} (hg : Blk w g cs) (hT : FreshV (g + 1) v ∨ BelowV g v) (a b c : Value) :
    NatV (((w.setCell ⟨g, 0, none⟩ a).setCell ⟨g, 1, none⟩ b).setCell ⟨g, 2, none⟩ c) v n := by
  have hne : ∀ ad k c, v = .slice (some ad) k c → ad.block ≠ g := fun ad k c e => by
    rcases hT with h1 | h1
    · have := h1 ad k c e; omega
    · have := h1 ad k c e; omega
  exact natV_low (natV_low (natV_low h hne) hne) hne
theorem FreshV.low {B B' : Nat} {v : Value} (h : FreshV B v) (hb : B' ≤ B) : FreshV B' v := fun a n c e => Nat.le_trans hb (h a n c e)
theorem Blk.set {w : World} {k : Nat} {cs : Array Value} (h : Blk w k cs) (j : Nat) (v : Value) : Blk (w.setCell ⟨k, j, none⟩ v) k (cs.setIfInBounds j v) := by
  obtain ⟨T, h⟩ := h
  refine ⟨T, ?_⟩
  simp [World.setCell, Array.getElem?_modify, h]
theorem Blk.set3 {w : World} {k : Nat} {x y z : Value} (h : Blk w k #[x, y, z]) (a b c : Value) : Blk (((w.setCell ⟨k, 0, none⟩ a).setCell ⟨k, 1, none⟩ b).setCell ⟨k, 2, none⟩ c) k #[a, b, c] := ((h.set 0 a).set 1 b).set 2 c
theorem Blk.other3 {w : World} {k g : Nat} {cs : Array Value} (h : Blk w k cs) (hg : g ≠ k) (a b c : Value) : Blk (((w.setCell ⟨g, 0, none⟩ a).setCell ⟨g, 1, none⟩ b).setCell ⟨g, 2, none⟩ c) k cs := ((h.other hg a).other hg b).other hg c
theorem below_set3 {B g : Nat} {w w' : World} (h : Below B w w') (hg : B ≤ g) (a b c : Value) : Below B w (((w'.setCell ⟨g, 0, none⟩ a).setCell ⟨g, 1, none⟩ b).setCell ⟨g, 2, none⟩ c) := ((h.setCell hg a).setCell hg b).setCell hg c



set_option maxRecDepth 100000 in
set_option maxHeartbeats 2000000 in
theorem of_any (n d : Int) (hn : In64 n) (hd : In64 d) (w : World) :
    Calls Tryz.prog 147 #[.agg #[.int .i64 n, .int .i64 d]] w (RetFrac w (decide (n < 0)) n.natAbs d.natAbs) := by
  unfold In64 at hn hd
  have s1 := refsize_any n hn
  have s2 := refsize_any d hd
  have hnl : n.natAbs < 18446744073709551616 := by omega
  have hdl : d.natAbs < 18446744073709551616 := by omega
  generalize n.natAbs = N at *
  generalize d.natAbs = D at *
  obtain ⟨ta, tr, hsz, hbw⟩ := box2 w #[.int .i64 n, .int .i64 d] #[.bool false, .slice none 0 0, .slice none 0 0] 51 233
  have TA := Lib.hid ta
  have TR := Lib.hid tr
  have HB := Lib.hid hbw
  have HSZ := Lib.hid hsz
  clear ta tr hsz hbw
  go_enter Tryz.func147, Tryz.ntmps147
  go_wp2_with fail
  generalize (w.alloc (.cells #[.int .i64 n, .int .i64 d] 51)).alloc (.cells #[.bool false, .slice none 0 0, .slice none 0 0] 233) = W at *
  obtain ⟨f0, f1, f2, f3⟩ := TA.out.two
  refine wp_region_held_drew (S := (fun (w' : World) => w'.cell? ⟨w.heap.size, 0, none⟩ = some (.int .i64 n) ∧ w'.cell? ⟨w.heap.size, 1, none⟩ = some (.int .i64 d) ∧ Blk w' w.heap.size #[.int .i64 n, .int .i64 d] ∧ Below w.heap.size w w' ∧ w.heap.size + 2 ≤ w'.heap.size ∧ ∃ x y z, Blk w' (w.heap.size + 1) #[x, y, z])) (by kernel_rfl) ⟨f0, f1, TA.out.keep (Below.refl _ _).drew (Nat.le_refl _), HB.out.drew, Nat.le_of_eq HSZ.out.symm, _, _, _, TR.out.keep (Below.refl _ _).drew (Nat.le_refl _)⟩ (fun hHeld => ?_)
  refine held_take 0 (v := ?_) rfl (by kernel_rfl) (by kernel_rfl) (by kernel_rfl) (fun _ _ _ h => h) (by assumption) ?_ ?_
  rotate_left
  · first | (refine Or.inr ⟨?_, ?_⟩ <;> rfl) | (refine Or.inl ⟨by rfl, ?_⟩; intro w hSw; (try dsimp only at hSw); first | (go_simp; done) | (go_simp; with_reducible rfl))
  try simp only [Act.put, List.setIfInBounds_toArray, List.set_cons_zero, List.set_cons_succ]
  refine held_take 1 (v := ?_) rfl (by kernel_rfl) (by kernel_rfl) (by kernel_rfl) (fun _ _ _ h => h) (by assumption) ?_ ?_
  rotate_left
  · first | (refine Or.inr ⟨?_, ?_⟩ <;> rfl) | (refine Or.inl ⟨by rfl, ?_⟩; intro w hSw; (try dsimp only at hSw); first | (go_simp; done) | (go_simp; with_reducible rfl))
  try simp only [Act.put, List.setIfInBounds_toArray, List.set_cons_zero, List.set_cons_succ]
  refine held_take 2 (v := ?_) rfl (by kernel_rfl) (by kernel_rfl) (by kernel_rfl) (fun _ _ _ h => h) (by assumption) ?_ ?_
  rotate_left
  · first | (refine Or.inr ⟨?_, ?_⟩ <;> rfl) | (refine Or.inl ⟨by rfl, ?_⟩; intro w hSw; (try dsimp only at hSw); first | (go_simp; done) | (go_simp; with_reducible rfl))
  try simp only [Act.put, List.setIfInBounds_toArray, List.set_cons_zero, List.set_cons_succ]
  refine held_take 3 (v := ?_) rfl (by kernel_rfl) (by kernel_rfl) (by kernel_rfl) (fun _ _ _ h => h) (by assumption) ?_ ?_
  rotate_left
  · first | (refine Or.inr ⟨?_, ?_⟩ <;> rfl) | (refine Or.inl ⟨by rfl, ?_⟩; intro w hSw; (try dsimp only at hSw); first | (go_simp; done) | (go_simp; with_reducible rfl))
  try simp only [Act.put, List.setIfInBounds_toArray, List.set_cons_zero, List.set_cons_succ]
  refine held_take 4 (v := ?_) rfl (by kernel_rfl) (by kernel_rfl) (by kernel_rfl) (fun _ _ _ h => h) (by assumption) ?_ ?_
  rotate_left
  · first | (refine Or.inr ⟨?_, ?_⟩ <;> rfl) | (refine Or.inl ⟨by rfl, ?_⟩; intro w hSw; (try dsimp only at hSw); first | (go_simp; done) | (go_simp; with_reducible rfl))
  try simp only [Act.put, List.setIfInBounds_toArray, List.set_cons_zero, List.set_cons_succ]
  refine held_take 7 (v := ?_) rfl (by kernel_rfl) (by kernel_rfl) (by kernel_rfl) (fun _ _ _ h => h) (by assumption) ?_ ?_
  rotate_left
  · first | (refine Or.inr ⟨?_, ?_⟩ <;> rfl) | (refine Or.inl ⟨by rfl, ?_⟩; intro w hSw; (try dsimp only at hSw); first | (go_simp; done) | (go_simp; with_reducible rfl))
  try simp only [Act.put, List.setIfInBounds_toArray, List.set_cons_zero, List.set_cons_succ]
  refine held_take 8 (v := ?_) rfl (by kernel_rfl) (by kernel_rfl) (by kernel_rfl) (fun _ _ _ h => h) (by assumption) ?_ ?_
  rotate_left
  · first | (refine Or.inr ⟨?_, ?_⟩ <;> rfl) | (refine Or.inl ⟨by rfl, ?_⟩; intro w hSw; (try dsimp only at hSw); first | (go_simp; done) | (go_simp; with_reducible rfl))
  try simp only [Act.put, List.setIfInBounds_toArray, List.set_cons_zero, List.set_cons_succ]
  refine held_call 5 rfl (by kernel_rfl) (fun K hK => ?_)
  go_simp
  with_reducible refine (s1 _).mono ?_
  rintro e w1 ⟨rfl, rfl⟩
  refine hK.out _ _ ?_ (fun hHeld => ?_)
  · first | exact hHeld | exact ⟨cell_keep' hHeld.1 hbk, cell_keep' hHeld.2.1 hbk, hHeld.2.2.1.keep hbk (Nat.le_refl _), bstep hHeld.2.2.2.1 hbk (Nat.le_refl _), Nat.le_trans hHeld.2.2.2.2.1 hbk.size, hHeld.2.2.2.2.2.imp fun _ => Exists.imp fun _ => Exists.imp fun _ h => h.keep hbk (Nat.le_refl _)⟩
  clear hK K
  try simp only [Act.put, List.setIfInBounds_toArray, List.set_cons_zero, List.set_cons_succ]
  refine held_call 6 rfl (by kernel_rfl) (fun K hK => ?_)
  go_simp
  with_reducible refine (from_any N hnl _).mono ?_
  rintro e w2 ⟨_, rfl, ⟨a2, c2, rfl, hs2⟩, hf2, hbk⟩
  have hb2 := hbk
  refine hK.out _ _ ?_ (fun hHeld => ?_)
  · first | exact hHeld | exact ⟨cell_keep' hHeld.1 hbk, cell_keep' hHeld.2.1 hbk, hHeld.2.2.1.keep hbk (Nat.le_refl _), bstep hHeld.2.2.2.1 hbk (Nat.le_refl _), Nat.le_trans hHeld.2.2.2.2.1 hbk.size, hHeld.2.2.2.2.2.imp fun _ => Exists.imp fun _ => Exists.imp fun _ h => h.keep hbk (Nat.le_refl _)⟩
  clear hK K
  try simp only [Act.put, List.setIfInBounds_toArray, List.set_cons_zero, List.set_cons_succ]
  refine held_call 9 rfl (by kernel_rfl) (fun K hK => ?_)
  go_simp
  with_reducible refine (s2 _).mono ?_
  rintro e w1 ⟨rfl, rfl⟩
  refine hK.out _ _ ?_ (fun hHeld => ?_)
  · first | exact hHeld | exact ⟨cell_keep' hHeld.1 hbk, cell_keep' hHeld.2.1 hbk, hHeld.2.2.1.keep hbk (Nat.le_refl _), bstep hHeld.2.2.2.1 hbk (Nat.le_refl _), Nat.le_trans hHeld.2.2.2.2.1 hbk.size, hHeld.2.2.2.2.2.imp fun _ => Exists.imp fun _ => Exists.imp fun _ h => h.keep hbk (Nat.le_refl _)⟩
  clear hK K
  try simp only [Act.put, List.setIfInBounds_toArray, List.set_cons_zero, List.set_cons_succ]
  refine held_call 10 rfl (by kernel_rfl) (fun K hK => ?_)
  go_simp
  with_reducible refine (from_any D hdl _).mono ?_
  rintro e w3 ⟨_, rfl, ⟨a3, c3, rfl, hs3⟩, hf3, hbk⟩
  have hb3 := hbk
  refine hK.out _ _ ?_ (fun hHeld => ?_)
  · first | exact hHeld | exact ⟨cell_keep' hHeld.1 hbk, cell_keep' hHeld.2.1 hbk, hHeld.2.2.1.keep hbk (Nat.le_refl _), bstep hHeld.2.2.2.1 hbk (Nat.le_refl _), Nat.le_trans hHeld.2.2.2.2.1 hbk.size, hHeld.2.2.2.2.2.imp fun _ => Exists.imp fun _ => Exists.imp fun _ h => h.keep hbk (Nat.le_refl _)⟩
  clear hK K
  try simp only [Act.put, List.setIfInBounds_toArray, List.set_cons_zero, List.set_cons_succ]
  refine held_take 11 (v := ?_) rfl (by kernel_rfl) (by kernel_rfl) (by kernel_rfl) (fun _ _ _ h => h) (by assumption) ?_ ?_
  rotate_left
  · first | (refine Or.inr ⟨?_, ?_⟩ <;> rfl) | (refine Or.inl ⟨by rfl, ?_⟩; intro w hSw; (try dsimp only at hSw); first | (go_simp; done) | (go_simp; with_reducible rfl))
  try simp only [Act.put, List.setIfInBounds_toArray, List.set_cons_zero, List.set_cons_succ]
  refine held_call 12 rfl (by kernel_rfl) (fun K hK => ?_)
  obtain ⟨q0, q1, q2, hq⟩ := hHeld.2.2.2.2.2
  obtain ⟨B, hB⟩ : ∃ B, B = w.heap.size := ⟨_, rfl⟩
  obtain ⟨y0, y1, y2, y3, y4, y5⟩ := hq.three
  have HS2 := Lib.hid (natV_set3 (NatV.keep (w := w1) ⟨a2, c2, rfl, hs2⟩ hb3) hq (.inl (FreshV.low hf2 (by simp [HSZ.out]))) (.bool (decide (n < 0))) (.slice a2 (digs N).length c2) (.slice a3 (digs D).length c3))
  have HS3 := Lib.hid (natV_set3 (w := w3) ⟨a3, c3, rfl, hs3⟩ hq (.inl (FreshV.low hf3 (by have h1 : W.heap.size ≤ w1.heap.size := hb2.size; have h2 := HSZ.out; omega))) (.bool (decide (n < 0))) (.slice a2 (digs N).length c2) (.slice a3 (digs D).length c3))
  have HQ := Lib.hid (hq.set3 (.bool (decide (n < 0))) (.slice a2 (digs N).length c2) (.slice a3 (digs D).length c3))
  have HBW := Lib.hid (below_set3 hHeld.2.2.2.1 (Nat.le_add_right w.heap.size 1) (.bool (decide (n < 0))) (.slice a2 (digs N).length c2) (.slice a3 (digs D).length c3))
  have HT := Lib.hid (hHeld.2.2.1.other3 (Nat.ne_of_gt (Nat.lt_succ_self w.heap.size)) (.bool (decide (n < 0))) (.slice a2 (digs N).length c2) (.slice a3 (digs D).length c3))
  go_simp
  refine hK.out _ _ ?_ (fun hHeld2 => ?_)
  · exact ⟨HT.out.two.1, HT.out.two.2.1, HT.out, HBW.out, by simpa using hHeld.2.2.2.2.1, _, _, _, HQ.out⟩
  clear hK K hHeld hHeld2 y0 y1 y2 y3 y4 y5 hs2 hs3 hq
  refine wpAnyH_done (by kernel_rfl) ?_ _
  obtain ⟨y0, y1, y2, y3, y4, y5⟩ := HQ.out.three
  go_wp2_with fail
  exact bodyPost_ret (v := .agg #[.bool (decide (n < 0)), .slice a2 (digs N).length c2, .slice a3 (digs D).length c3]) (by simp [results, Tryz.results147, go_sem, y0, y1, y2]) rfl ⟨_, rfl, ⟨_, _, rfl, HS2.out, HS3.out⟩, HBW.out⟩
end Go.Proofs.YtlgbgobpdkilaaaGreatDoor

namespace Go.Proofs.YtlgbgobpdkilaaaGreatDoor
set_option linter.unusedVariables false
open Go.RowKit

/-- noughts ahead, until there are so many -/
theorem pad_more (L k q : Nat) (h : Lib.decDigits q = padD L q) (hq : q < 10 ^ L) (j : Nat) : List.replicate j 48 ++ padD L q = padD (j + L) q := (pad_front L j q hq).symm
theorem dec_len_digs {q m : Nat} (h : (digs q).length ≤ m) : (Lib.decDigits q).length ≤ 10 * m + 1 := by
  refine dec_len_le _ _ (Nat.lt_of_lt_of_le ((digs_len q m).1 h) ?_) (by omega)
  refine Nat.le_trans ?_ (Nat.pow_le_pow_right (by decide) (Nat.le_succ _))
  rw [Nat.pow_mul]
  exact Nat.pow_le_pow_left (by decide) _
theorem dec_shape (q : Nat) : ∃ L, 0 < L ∧ Lib.decDigits q = padD L q ∧ q < 10 ^ L := by
  obtain ⟨k, h1, h2, _⟩ := dec_len q
  exact ⟨k + 1, by omega, h1, h2⟩
theorem one_iff {d : Nat} (hd : 0 < d) (h1 : restN d = 1) : placesN d = 0 ↔ d = 1 := by
  have h := ends_iff d hd h1 0
  rw [Nat.pow_zero, Nat.dvd_one] at h
  constructor
  · intro h0; exact h.2 (by omega)
  · intro h0; have := h.1 h0; omega
theorem extract_midR (L : List UInt8) (i j : Nat) (hj : j ≤ L.length) : (⟨L.toArray⟩ : ByteArray).extract i j = ⟨((L.drop i).take (j - i)).toArray⟩ := by
  have h : ∀ (a b : ByteArray), a.data = b.data → a = b := fun a b e => by cases a; cases b; simp at e; rw [e]
  refine h _ _ (Array.ext' ?_)
  rw [Go.Lib.extract_data]

set_option maxRecDepth 100000 in
set_option maxHeartbeats 4000000 in
theorem refprint_any (n d : Int) (h1 : In64 n) (h2 : In64 d) (w : World) :
    Calls Tryz.prog 127 #[.agg #[.int .i64 n, .int .i64 d]] w fun e w' =>
      e = .returned (if rightB n d then .tuple #[.string ⟨(printL n d.natAbs).toArray⟩, .int .i64 0] else .tuple #[.string ⟨#[]⟩, .int .i64 1]) ∧ Below w.heap.size w w' := by
  have ca := refright_any n d h1 h2
  have hbx := box1 w #[.int .i64 n, .int .i64 d] 51
  obtain ⟨ta, hsz, hbw⟩ := hbx
  have TA := Lib.hid ta
  have HBW := Lib.hid hbw
  clear ta hsz hbw
  cases hr : rightB n d
  · rw [hr] at ca
    go_enter Tryz.func127, Tryz.ntmps127
    go_wp2_with fail
    with_reducible refine (ca _).mono ?_
    rintro e w1 ⟨rfl, hb1⟩
    have HW1 := Lib.hid (bstep HBW.out hb1 (Nat.le_refl _))
    clear hb1 ca
    go_wp2_with fail
    go_ret2
    exact ⟨rfl, HW1.out⟩
  · rw [hr] at ca
    obtain ⟨a1, a2, a3, a4, a5⟩ := (rightB_iff n d h1 h2).1 hr
    have ofa := of_any n d h1 h2
    clear hr h1 h2
    obtain ⟨D, rfl⟩ := Int.eq_ofNat_of_zero_le (show 0 ≤ d by omega)
    obtain ⟨V, hV⟩ : ∃ V, V = printL n (D : Int).natAbs := ⟨_, rfl⟩
    rw [if_pos rfl, ← hV]
    rw [Int.natAbs_natCast] at hV a5 ofa
    have hA : n.natAbs < 18446744073709551616 := by omega
    unfold printL at hV
    generalize n.natAbs = A at *
    have HV := Lib.hid hV
    clear hV a5
    have hD1 : 1 ≤ D := by omega
    have hD2 : D ≤ 9223372036854775807 := by omega
    clear a1 a2 a3 a4
    have cp := places_any D hD1 hD2
    go_enter Tryz.func127, Tryz.ntmps127
    go_wp2_with fail
    with_reducible refine (ca _).mono ?_
    rintro e w1 ⟨rfl, hb1⟩
    replace HBW := Lib.hid (bstep HBW.out hb1 (Nat.le_refl _))
    replace TA := Lib.hid (TA.out.keep hb1 (Nat.le_refl _))
    obtain ⟨f0, f1, f2, f3⟩ := TA.out.two
    clear hb1 ca f2 f3
    go_upto_if 16 with (fail)
    go_cut [4] (fun x wc => x = .string ⟨(sgnL n).toArray⟩ ∧ wc = w1)
    case first =>
      by_cases hn : n < 0
      · have HS := Lib.hid (show sgnL n = [45] from if_pos hn)
        go_wp2_with fail
        go_meet
        case rel => exact ⟨by rw [HS.out], rfl⟩
      · have HS := Lib.hid (show sgnL n = [] from if_neg hn)
        go_wp2_with fail
        go_meet
        case rel => exact ⟨by rw [HS.out], rfl⟩
    case rest =>
      obtain ⟨rfl, rfl⟩ := hcut
      have hSl : (sgnL n).length ≤ 1 := by unfold sgnL; split <;> decide
      generalize sgnL n = S at *
      go_wp2_with fail
      with_reducible refine (ofa _).mono ?_
      rintro e w3 ⟨_, rfl, ⟨_, _, rfl, ⟨aa, cA, rfl, hsa⟩, ⟨ad, cD, rfl, hsd⟩⟩, hb1⟩
      replace HBW := Lib.hid (bstep HBW.out hb1 (Nat.le_refl _))
      replace TA := Lib.hid (TA.out.keep hb1 (Nat.le_refl _))
      clear ofa hb1 f0 f1
      obtain ⟨t4, hsz4, hb4⟩ := box1 w3 #[.bool (decide (n < 0)), .slice aa (digs A).length cA, .slice ad (digs D).length cD] 233
      replace HBW := Lib.hid (bstep HBW.out hb4 (Nat.le_refl _))
      replace TA := Lib.hid (TA.out.keep hb4 (Nat.le_refl _))
      have HA := Lib.hid (hsa.keep hb4 (Nat.le_refl _))
      have HD := Lib.hid (hsd.keep hb4 (Nat.le_refl _))
      have T4 := Lib.hid t4
      clear hsz4 hb4 hsa hsd t4
      obtain ⟨f0, f1, f2, f3⟩ := TA.out.two
      go_wp2_with fail
      with_reducible refine (cp _).mono ?_
      rintro e W ⟨rfl, hb1⟩
      replace HBW := Lib.hid (bstep HBW.out hb1 (Nat.le_refl _))
      replace HA := Lib.hid (HA.out.keep hb1 (Nat.le_refl _))
      replace HD := Lib.hid (HD.out.keep hb1 (Nat.le_refl _))
      replace T4 := Lib.hid (T4.out.keep hb1 (Nat.le_refl _))
      clear hb1 cp f0 f1 f2 f3 TA
      have hlA : (digs A).length ≤ 2 := digs64 hA
      have hlD : (digs D).length ≤ 2 := digs64 (by omega)
      generalize w3.heap.size = g4 at *
      obtain ⟨x0, x1, x2, _, _, _⟩ := T4.out.three
      by_cases hrest : restN D = 1
      · rw [if_pos hrest]
        have hpl := places_le hD1 hD2
        have c1 := fun w' (h : Below W.heap.size W w') => ten_any (placesN D) hpl w'
        have c2 := fun w' a5 c5 (h : Below W.heap.size W w') (h5 : SlD w' a5 c5 (digs (10 ^ placesN D))) => times_any A (10 ^ placesN D) aa a5 cA c5 (by omega) (by have := pow62 hpl; omega) w' (HA.out.keep h (Nat.le_refl _)) h5
        have hlm : (digs (A * 10 ^ placesN D)).length ≤ 1000 := by
          have e1 := (digs_len A 2).1 hlA
          have e2 := (digs_len _ 8).1 (pow62 hpl)
          refine Nat.le_trans ((digs_len _ 10).2 ?_) (by decide)
          rw [show (10 : Nat) = 2 + 8 from rfl, Nat.pow_add]
          exact Nat.mul_lt_mul'' e1 e2
        have c3 := fun w' a6 c6 (h : Below W.heap.size W w') (h6 : SlD w' a6 c6 (digs (A * 10 ^ placesN D))) => divided_any (A * 10 ^ placesN D) D hD1 a6 ad c6 cD (by omega) (by omega) w' h6 (HD.out.keep h (Nat.le_refl _))
        have hlq : (digs (A * 10 ^ placesN D / D)).length ≤ 1000 := by
          have e1 := (digs_len (A * 10 ^ placesN D) _).1 hlm
          exact (digs_len _ 1000).2 (Nat.lt_of_le_of_lt (Nat.div_le_self _ _) e1)
        have HSPLIT := Lib.hid (fun len h => point_split A D (placesN D) len hD1 h)
        have HONE := Lib.hid (one_iff hD1 hrest)
        have HREST := Lib.hid hrest
        generalize hk : placesN D = k at *
        have HK := Lib.hid hk.symm
        have hkn : ¬ (k : Int) < 0 := by omega
        clear hk hlA hlD hrest
        generalize (digs A).length = la at *
        generalize (digs D).length = ld at *
        go_wp2_with fail

        refine wp_region_held_drew (S := (fun (w' : World) => w'.cell? ⟨g4, 0, none⟩ = some (.bool (decide (n < 0))) ∧ w'.cell? ⟨g4, 1, none⟩ = some (.slice aa la cA) ∧ w'.cell? ⟨g4, 2, none⟩ = some (.slice ad ld cD) ∧ Below W.heap.size W w')) (by kernel_rfl) ⟨x0, x1, x2, (Below.refl _ _).drew⟩ (fun hHeld => ?_)
        refine held_take 0 (v := ?_) rfl (by kernel_rfl) (by kernel_rfl) (by kernel_rfl) (fun _ _ _ h => h) (by assumption) ?_ ?_
        rotate_left
        · first | (refine Or.inr ⟨?_, ?_⟩ <;> rfl) | (refine Or.inl ⟨by rfl, ?_⟩; intro w hSw; (try dsimp only at hSw); first | (go_simp; done) | (go_simp; with_reducible rfl))
        try simp only [Act.put, List.setIfInBounds_toArray, List.set_cons_zero, List.set_cons_succ]
        refine held_take 1 (v := ?_) rfl (by kernel_rfl) (by kernel_rfl) (by kernel_rfl) (fun _ _ _ h => h) (by assumption) ?_ ?_
        rotate_left
        · first | (refine Or.inr ⟨?_, ?_⟩ <;> rfl) | (refine Or.inl ⟨by rfl, ?_⟩; intro w hSw; (try dsimp only at hSw); first | (go_simp; done) | (go_simp; with_reducible rfl))
        try simp only [Act.put, List.setIfInBounds_toArray, List.set_cons_zero, List.set_cons_succ]
        refine held_take 2 (v := ?_) rfl (by kernel_rfl) (by kernel_rfl) (by kernel_rfl) (fun _ _ _ h => h) (by assumption) ?_ ?_
        rotate_left
        · first | (refine Or.inr ⟨?_, ?_⟩ <;> rfl) | (refine Or.inl ⟨by rfl, ?_⟩; intro w hSw; (try dsimp only at hSw); first | (go_simp; done) | (go_simp; with_reducible rfl))
        try simp only [Act.put, List.setIfInBounds_toArray, List.set_cons_zero, List.set_cons_succ]
        refine held_take 5 (v := ?_) rfl (by kernel_rfl) (by kernel_rfl) (by kernel_rfl) (fun _ _ _ h => h) (by assumption) ?_ ?_
        rotate_left
        · first | (refine Or.inr ⟨?_, ?_⟩ <;> rfl) | (refine Or.inl ⟨by rfl, ?_⟩; intro w hSw; (try dsimp only at hSw); first | (go_simp; done) | (go_simp; with_reducible rfl))
        try simp only [Act.put, List.setIfInBounds_toArray, List.set_cons_zero, List.set_cons_succ]
        refine held_take 6 (v := ?_) rfl (by kernel_rfl) (by kernel_rfl) (by kernel_rfl) (fun _ _ _ h => h) (by assumption) ?_ ?_
        rotate_left
        · first | (refine Or.inr ⟨?_, ?_⟩ <;> rfl) | (refine Or.inl ⟨by rfl, ?_⟩; intro w hSw; (try dsimp only at hSw); first | (go_simp; done) | (go_simp; with_reducible rfl))
        try simp only [Act.put, List.setIfInBounds_toArray, List.set_cons_zero, List.set_cons_succ]
        refine held_call 3 rfl (by kernel_rfl) (fun K hK => ?_)
        go_simp
        with_reducible refine (c1 _ hHeld.2.2.2).mono ?_
        rintro e w5 ⟨_, rfl, ⟨a5, c5, rfl, hs5⟩, _, hbk⟩
        refine hK.out _ _ ?_ (fun hHeld => ?_)
        · first | exact hHeld | exact ⟨cell_keep' hHeld.1 hbk, cell_keep' hHeld.2.1 hbk, cell_keep' hHeld.2.2.1 hbk, bstep hHeld.2.2.2 hbk (Nat.le_refl _)⟩
        clear hK K
        try simp only [Act.put, List.setIfInBounds_toArray, List.set_cons_zero, List.set_cons_succ]
        refine held_call 4 rfl (by kernel_rfl) (fun K hK => ?_)
        go_simp
        with_reducible refine (c2 _ _ _ hHeld.2.2.2 hs5).mono ?_
        rintro e w6 ⟨_, rfl, ⟨a6, c6, rfl, hs6⟩, _, hbk⟩
        refine hK.out _ _ ?_ (fun hHeld => ?_)
        · first | exact hHeld | exact ⟨cell_keep' hHeld.1 hbk, cell_keep' hHeld.2.1 hbk, cell_keep' hHeld.2.2.1 hbk, bstep hHeld.2.2.2 hbk (Nat.le_refl _)⟩
        clear hK K
        try simp only [Act.put, List.setIfInBounds_toArray, List.set_cons_zero, List.set_cons_succ]
        refine held_call 7 rfl (by kernel_rfl) (fun K hK => ?_)
        go_simp
        with_reducible refine (c3 _ _ _ hHeld.2.2.2 hs6).mono ?_
        rintro e w7 ⟨_, _, rfl, ⟨a7, c7, rfl, hs7⟩, ⟨a8, c8, rfl, hs8⟩, hbk⟩
        refine hK.out _ _ ?_ (fun hHeld => ?_)
        · first | exact hHeld | exact ⟨cell_keep' hHeld.1 hbk, cell_keep' hHeld.2.1 hbk, cell_keep' hHeld.2.2.1 hbk, bstep hHeld.2.2.2 hbk (Nat.le_refl _)⟩
        clear hK K
        try simp only [Act.put, List.setIfInBounds_toArray, List.set_cons_zero, List.set_cons_succ]
        refine held_take 8 (v := ?_) rfl (by kernel_rfl) (by kernel_rfl) (by kernel_rfl) (fun _ _ _ h => h) (by assumption) ?_ ?_
        rotate_left
        · first | (refine Or.inr ⟨?_, ?_⟩ <;> rfl) | (refine Or.inl ⟨by rfl, ?_⟩; intro w hSw; (try dsimp only at hSw); first | (go_simp; done) | (go_simp; with_reducible rfl))
        try simp only [Act.put, List.setIfInBounds_toArray, List.set_cons_zero, List.set_cons_succ]
        refine held_take 9 (v := ?_) rfl (by kernel_rfl) (by kernel_rfl) (by kernel_rfl) (fun _ _ _ h => h) (by assumption) ?_ ?_
        rotate_left
        · first | (refine Or.inr ⟨?_, ?_⟩ <;> rfl) | (refine Or.inl ⟨by rfl, ?_⟩; intro w hSw; (try dsimp only at hSw); first | (go_simp; done) | (go_simp; with_reducible rfl))
        try simp only [Act.put, List.setIfInBounds_toArray, List.set_cons_zero, List.set_cons_succ]
        refine held_take 10 (v := ?_) rfl (by kernel_rfl) (by kernel_rfl) (by kernel_rfl) (fun _ _ _ h => h) (by assumption) ?_ ?_
        rotate_left
        · first | (refine Or.inr ⟨?_, ?_⟩ <;> rfl) | (refine Or.inl ⟨by rfl, ?_⟩; intro w hSw; (try dsimp only at hSw); first | (go_simp; done) | (go_simp; with_reducible rfl))
        try simp only [Act.put, List.setIfInBounds_toArray, List.set_cons_zero, List.set_cons_succ]
        refine held_take 11 (v := ?_) rfl (by kernel_rfl) (by kernel_rfl) (by kernel_rfl) (fun _ _ _ h => h) (by assumption) ?_ ?_
        rotate_left
        · first | (refine Or.inr ⟨?_, ?_⟩ <;> rfl) | (refine Or.inl ⟨by rfl, ?_⟩; intro w hSw; (try dsimp only at hSw); first | (go_simp; done) | (go_simp; with_reducible rfl))
        try simp only [Act.put, List.setIfInBounds_toArray, List.set_cons_zero, List.set_cons_succ]
        refine held_take 12 (v := ?_) rfl (by kernel_rfl) (by kernel_rfl) (by kernel_rfl) (fun _ _ _ h => h) (by assumption) ?_ ?_
        rotate_left
        · first | (refine Or.inr ⟨?_, ?_⟩ <;> rfl) | (refine Or.inl ⟨by rfl, ?_⟩; intro w hSw; (try dsimp only at hSw); first | (go_simp; done) | (go_simp; with_reducible rfl))
        try simp only [Act.put, List.setIfInBounds_toArray, List.set_cons_zero, List.set_cons_succ]
        refine wpAnyH_done (by kernel_rfl) ?_ _
        have HB6 := Lib.hid (bstep HBW.out hHeld.2.2.2 (Nat.le_refl _))
        have cd := decimal_any (A * 10 ^ k / D) a7 c7 hlq _ hs7
        have hql : (Lib.decDigits (A * 10 ^ k / D)).length ≤ 10001 := dec_len_digs hlq
        clear hHeld x0 x1 x2 c1 c2 c3 hs5 hs6 hs7 hs8 hlm hlq HA HD HBW T4
        generalize A * 10 ^ k / D = q at *
        generalize (digs q).length = lq at *
        generalize (digs (A * 10 ^ k % D)).length = lq2 at *
        obtain ⟨L, hL0, hLd, hLq⟩ := dec_shape q
        have hL10 : L ≤ 10001 := by rw [hLd, padD_len] at hql; exact hql
        have HLQ := Lib.hid hLq
        have HLD := Lib.hid (show (Lib.decDigits q).length = L by rw [hLd, padD_len])
        rw [hLd] at cd
        clear hLq hLd hql
        go_wp2_with fail
        with_reducible refine cd.mono ?_
        rintro e w8 ⟨rfl, hb8⟩
        replace HB6 := Lib.hid (bstep HB6.out hb8 (Nat.le_refl _))
        clear cd hb8
        go_wp2_with fail
        go_loopw [9, 10] (fun s x wr => ∃ i : Nat, x = .int .i64 (i : Nat) ∧ s = .string ⟨(padD (L + i) q).toArray⟩ ∧ (i = 0 ∨ L + i ≤ k + 1) ∧ wr = w8) (fun _ x _ => 64 - (intOf x).toNat)
        case atStart => exact ⟨0, rfl, rfl, .inl rfl, rfl⟩
        case round =>
          obtain ⟨i, rfl, rfl, hi, rfl⟩ := hrel
          have hPl := padD_len (L + i) q
          have HNXT := Lib.hid (show padD (L + (i + 1)) q = 48 :: padD (L + i) q by
            rw [← Nat.add_assoc, Nat.add_comm (L + i) 1, pad_front (L + i) 1 q (Nat.lt_of_lt_of_le HLQ.out (Nat.pow_le_pow_right (by decide) (by omega)))]
            rfl)
          by_cases hgo : L + i ≤ k
          · generalize padD (L + i) q = P at *
            have hst := strA [48] P
            have h1 : (P.length : Int) ≤ k := by omega
            have h2 : (i : Int) < 64 := by omega
            have h3 : ¬ 9223372036854775807 < 1 + P.length := by omega
            clear hPl
            go_wp2_with fail
            go_roundw
            case rel => exact ⟨i + 1, by go_num, by rw [HNXT.out], .inr (by omega), trivial⟩
            case measure => simp [intOf]; omega
          · have hsp := HSPLIT.out (L + i) (by rw [HLD.out]; omega)
            clear HNXT
            generalize padD (L + i) q = P at *
            have h1 : ¬ (P.length : Int) ≤ k := by omega
            by_cases hk0 : k = 0
            · have hD := HONE.out.1 hk0
              have HE := Lib.hid (show V = S ++ P by
                rw [HV.out, hsp, hk0, hD]; unfold bodyL
                rw [if_pos (show restN 1 = 1 by decide +kernel), if_pos rfl, Nat.div_one]
                simp [longD])
              have hkz : ((k : Int) == 0) = true := by rw [beq_iff_eq]; omega
              have hst := strA S P
              have h3 : ¬ 9223372036854775807 < S.length + P.length := by omega
              clear hsp hPl hk0 hD
              by_cases hi64 : (i : Int) < 64
              · go_wp2_with fail
                go_ret2
                exact ⟨by rw [HE.out]; rfl, HB6.out⟩
              · go_wp2_with fail
                go_ret2
                exact ⟨by rw [HE.out]; rfl, HB6.out⟩
            · have hD : D ≠ 1 := fun h => hk0 (HONE.out.2 h)
              have hlong := longD_len k (A % D) D
              obtain ⟨X, hX⟩ : ∃ X, X = Lib.decDigits (A / D) := ⟨_, rfl⟩
              obtain ⟨Y, hY⟩ : ∃ Y, Y = longD k (A % D) D := ⟨_, rfl⟩
              have HE := Lib.hid (show V = S ++ (X ++ 46 :: Y) by
                rw [HV.out, hX, hY]; unfold bodyL
                rw [if_pos HREST.out, if_neg hD, HK.out])
              rw [← hX, ← hY] at hsp
              rw [← hY] at hlong
              clear hX hY hD
              have hXl : X.length + k = P.length := by rw [hsp, List.length_append, hlong]
              have he1 : (⟨P.toArray⟩ : ByteArray).extract 0 X.length = ⟨X.toArray⟩ := by
                rw [extract_midR P 0 X.length (by omega), hsp]; simp
              have he2 : (⟨P.toArray⟩ : ByteArray).extract X.length P.length = ⟨Y.toArray⟩ := by
                rw [extract_midR P X.length P.length (Nat.le_refl _), hsp]; simp
              have hkz : ((k : Int) == 0) = false := by rw [beq_eq_false_iff_ne]; omega
              have hsub : (P.length : Int) - (k : Int) = (X.length : Int) := by omega
              have hst1 := strA S X
              have hst2 := str_snoc (S ++ X) 46
              have hst3 := strA (S ++ X ++ [46]) Y
              have h3 : ¬ 9223372036854775807 < S.length + X.length := by omega
              have h4 : ¬ 9223372036854775807 < S.length + X.length + 1 := by omega
              have h5 : ¬ 9223372036854775807 < S.length + (X.length + 1) + Y.length := by omega
              have hx1 : (X.length : Int) ≤ P.length := by omega
              clear hsp hk0 hXl hPl
              by_cases hi64 : (i : Int) < 64
              · go_wp2_with fail
                go_quiet (fail)
                go_wp2_with fail
                go_ret2
                refine ⟨?_, bdrew HB6.out _⟩
                rw [HE.out]
                simp [strA]
              · go_wp2_with fail
                go_quiet (fail)
                go_wp2_with fail
                go_ret2
                refine ⟨?_, bdrew HB6.out _⟩
                rw [HE.out]
                simp [strA]
      · rw [if_neg hrest]
        have c1 := fun w' (h : Below W.heap.size W w') => decimal_any A aa cA (by omega) w' (HA.out.keep h (Nat.le_refl _))
        have c2 := fun w' (h : Below W.heap.size W w') => decimal_any D ad cD (by omega) w' (HD.out.keep h (Nat.le_refl _))
        have HE := Lib.hid (show V = S ++ (Lib.decDigits A ++ 47 :: Lib.decDigits D) by rw [HV.out]; unfold bodyL; rw [if_neg hrest])
        have hlA := dec_len64 hA
        have hlD := dec_len64 (show D < 18446744073709551616 by omega)
        clear hrest
        generalize Lib.decDigits A = QA at *
        generalize Lib.decDigits D = QD at *
        generalize (digs A).length = la at *
        generalize (digs D).length = ld at *
        go_wp2_with fail

        have st1 := strA S QA
        have st2 := str_snoc (S ++ QA) 47
        have st3 := strA (S ++ QA ++ [47]) QD
        have hl2 : ¬ 9223372036854775807 < S.length + QA.length := by omega
        have hl3 : ¬ 9223372036854775807 < S.length + QA.length + 1 := by omega
        have hl4 : ¬ 9223372036854775807 < S.length + (QA.length + 1) + QD.length := by omega
        refine wp_region_held_drew (S := (fun (w' : World) => w'.cell? ⟨g4, 0, none⟩ = some (.bool (decide (n < 0))) ∧ w'.cell? ⟨g4, 1, none⟩ = some (.slice aa la cA) ∧ w'.cell? ⟨g4, 2, none⟩ = some (.slice ad ld cD) ∧ Below W.heap.size W w')) (by kernel_rfl) ⟨x0, x1, x2, (Below.refl _ _).drew⟩ (fun hHeld => ?_)
        refine held_take 0 (v := ?_) rfl (by kernel_rfl) (by kernel_rfl) (by kernel_rfl) (fun _ _ _ h => h) (by assumption) ?_ ?_
        rotate_left
        · first | (refine Or.inr ⟨?_, ?_⟩ <;> rfl) | (refine Or.inl ⟨by rfl, ?_⟩; intro w hSw; (try dsimp only at hSw); first | (go_simp; done) | (go_simp; with_reducible rfl))
        try simp only [Act.put, List.setIfInBounds_toArray, List.set_cons_zero, List.set_cons_succ]
        refine held_take 1 (v := ?_) rfl (by kernel_rfl) (by kernel_rfl) (by kernel_rfl) (fun _ _ _ h => h) (by assumption) ?_ ?_
        rotate_left
        · first | (refine Or.inr ⟨?_, ?_⟩ <;> rfl) | (refine Or.inl ⟨by rfl, ?_⟩; intro w hSw; (try dsimp only at hSw); first | (go_simp; done) | (go_simp; with_reducible rfl))
        try simp only [Act.put, List.setIfInBounds_toArray, List.set_cons_zero, List.set_cons_succ]
        refine held_take 2 (v := ?_) rfl (by kernel_rfl) (by kernel_rfl) (by kernel_rfl) (fun _ _ _ h => h) (by assumption) ?_ ?_
        rotate_left
        · first | (refine Or.inr ⟨?_, ?_⟩ <;> rfl) | (refine Or.inl ⟨by rfl, ?_⟩; intro w hSw; (try dsimp only at hSw); first | (go_simp; done) | (go_simp; with_reducible rfl))
        try simp only [Act.put, List.setIfInBounds_toArray, List.set_cons_zero, List.set_cons_succ]
        refine held_take 6 (v := ?_) rfl (by kernel_rfl) (by kernel_rfl) (by kernel_rfl) (fun _ _ _ h => h) (by assumption) ?_ ?_
        rotate_left
        · first | (refine Or.inr ⟨?_, ?_⟩ <;> rfl) | (refine Or.inl ⟨by rfl, ?_⟩; intro w hSw; (try dsimp only at hSw); first | (go_simp; done) | (go_simp; with_reducible rfl))
        try simp only [Act.put, List.setIfInBounds_toArray, List.set_cons_zero, List.set_cons_succ]
        refine held_take 7 (v := ?_) rfl (by kernel_rfl) (by kernel_rfl) (by kernel_rfl) (fun _ _ _ h => h) (by assumption) ?_ ?_
        rotate_left
        · first | (refine Or.inr ⟨?_, ?_⟩ <;> rfl) | (refine Or.inl ⟨by rfl, ?_⟩; intro w hSw; (try dsimp only at hSw); first | (go_simp; done) | (go_simp; with_reducible rfl))
        try simp only [Act.put, List.setIfInBounds_toArray, List.set_cons_zero, List.set_cons_succ]
        refine held_call 3 rfl (by kernel_rfl) (fun K hK => ?_)
        go_simp
        with_reducible refine (c1 _ hHeld.2.2.2).mono ?_
        rintro e w5 ⟨rfl, hbk⟩
        refine hK.out _ _ ?_ (fun hHeld => ?_)
        · first | exact hHeld | exact ⟨cell_keep' hHeld.1 hbk, cell_keep' hHeld.2.1 hbk, cell_keep' hHeld.2.2.1 hbk, bstep hHeld.2.2.2 hbk (Nat.le_refl _)⟩
        clear hK K
        try simp only [Act.put, List.setIfInBounds_toArray, List.set_cons_zero, List.set_cons_succ]
        refine held_take 4 (v := ?_) rfl (by kernel_rfl) (by kernel_rfl) (by kernel_rfl) (fun _ _ _ h => h) (by assumption) ?_ ?_
        rotate_left
        · first | (refine Or.inr ⟨?_, ?_⟩ <;> rfl) | (refine Or.inl ⟨by rfl, ?_⟩; intro w hSw; (try dsimp only at hSw); first | (go_simp; done) | (go_simp; with_reducible rfl))
        try simp only [Act.put, List.setIfInBounds_toArray, List.set_cons_zero, List.set_cons_succ]
        refine held_take 5 (v := ?_) rfl (by kernel_rfl) (by kernel_rfl) (by kernel_rfl) (fun _ _ _ h => h) (by assumption) ?_ ?_
        rotate_left
        · first | (refine Or.inr ⟨?_, ?_⟩ <;> rfl) | (refine Or.inl ⟨by rfl, ?_⟩; intro w hSw; (try dsimp only at hSw); first | (go_simp; done) | (go_simp; with_reducible rfl))
        try simp only [Act.put, List.setIfInBounds_toArray, List.set_cons_zero, List.set_cons_succ]
        refine held_call 8 rfl (by kernel_rfl) (fun K hK => ?_)
        go_simp
        with_reducible refine (c2 _ hHeld.2.2.2).mono ?_
        rintro e w6 ⟨rfl, hbk⟩
        refine hK.out _ _ ?_ (fun hHeld => ?_)
        · first | exact hHeld | exact ⟨cell_keep' hHeld.1 hbk, cell_keep' hHeld.2.1 hbk, cell_keep' hHeld.2.2.1 hbk, bstep hHeld.2.2.2 hbk (Nat.le_refl _)⟩
        clear hK K
        try simp only [Act.put, List.setIfInBounds_toArray, List.set_cons_zero, List.set_cons_succ]
        refine held_take 9 (v := ?_) rfl (by kernel_rfl) (by kernel_rfl) (by kernel_rfl) (fun _ _ _ h => h) (by assumption) ?_ ?_
        rotate_left
        · first | (refine Or.inr ⟨?_, ?_⟩ <;> rfl) | (refine Or.inl ⟨by rfl, ?_⟩; intro w hSw; (try dsimp only at hSw); first | (go_simp; done) | (go_simp; with_reducible rfl))
        try simp only [Act.put, List.setIfInBounds_toArray, List.set_cons_zero, List.set_cons_succ]
        refine held_take 10 (v := ?_) rfl (by kernel_rfl) (by kernel_rfl) (by kernel_rfl) (fun _ _ _ h => h) (by assumption) ?_ ?_
        rotate_left
        · first | (refine Or.inr ⟨?_, ?_⟩ <;> rfl) | (refine Or.inl ⟨by rfl, ?_⟩; intro w hSw; (try dsimp only at hSw); first | (go_simp; done) | (go_simp; with_reducible rfl))
        try simp only [Act.put, List.setIfInBounds_toArray, List.set_cons_zero, List.set_cons_succ]
        refine held_take 11 (v := ?_) rfl (by kernel_rfl) (by kernel_rfl) (by kernel_rfl) (fun _ _ _ h => h) (by assumption) ?_ ?_
        rotate_left
        · first | (refine Or.inr ⟨?_, ?_⟩ <;> rfl) | (refine Or.inl ⟨by rfl, ?_⟩; intro w hSw; (try dsimp only at hSw); first | (go_simp; done) | (go_simp; with_reducible rfl))
        try simp only [Act.put, List.setIfInBounds_toArray, List.set_cons_zero, List.set_cons_succ]
        refine wpAnyH_done (by kernel_rfl) ?_ _
        have HB6 := Lib.hid (bstep HBW.out hHeld.2.2.2 (Nat.le_refl _))
        clear hHeld
        go_wp2_with fail
        go_ret2
        refine ⟨?_, HB6.out⟩
        rw [HE.out]
        simp [strA]
end Go.Proofs.YtlgbgobpdkilaaaGreatDoor
