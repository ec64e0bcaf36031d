/-
  The reference's Add, Sub: contracts.
-/
import Derived.Test.YtaipghojggiopaaDoorRefS
namespace Go.Proofs.YtaipghojggiopaaDoor
set_option linter.unusedVariables false
open Go.RowKit

def refargV : Value := .tuple #[.agg #[.int .i64 0, .int .i64 0], .int .i64 1]
def refsumV (na da nb db : Int) (less : Bool) : Value :=
  if rightB na da && rightB nb db then refV (fracI (na * db + (if less then -nb else nb) * da) (da.natAbs * db.natAbs)) else refargV
theorem sgn_self (X : Int) : sgn (decide (X < 0)) X.natAbs = X := by
  unfold sgn
  by_cases h : X < 0
  · rw [decide_eq_true h, if_pos rfl]; omega
  · rw [decide_eq_false h, if_neg (by decide)]; omega
theorem sgn_not (b : Bool) (N : Nat) : sgn (!b) N = -(sgn b N) := by cases b <;> simp [sgn]
theorem sumF_le (n1 : Bool) (A D : Nat) (n2 : Bool) (B E : Nat) : (sumF n1 A D n2 B E).2 ≤ A * E + B * D := by
  unfold sumF
  split
  · exact Nat.le_refl _
  · split
    · exact Nat.le_trans (Nat.sub_le _ _) (Nat.le_add_right _ _)
    · exact Nat.le_trans (Nat.sub_le _ _) (Nat.le_add_left _ _)
theorem sumF_len {A D B E : Nat} (n1 n2 : Bool) (hA : A < 18446744073709551616) (hD : D < 18446744073709551616) (hB : B < 18446744073709551616) (hE : E < 18446744073709551616) : (digs (sumF n1 A D n2 B E).2).length ≤ 1000 := by
  refine Nat.le_trans ((digs_len _ 5).2 ?_) (by decide)
  have h1 := (digs_len _ _).1 (len_mul (digs64 hA) (digs64 hE))
  have h2 := (digs_len _ _).1 (len_mul (digs64 hB) (digs64 hD))
  have h3 := sumF_le n1 A D n2 B E
  rw [show (4294967296 : Nat) ^ (2 + 2) = 340282366920938463463374607431768211456 by decide +kernel] at h1 h2
  rw [show (4294967296 : Nat) ^ 5 = 1461501637330902918203684832716283019655932542976 by decide +kernel]
  omega
theorem refsum_val (na da nb db : Int) (less : Bool) (h1 : 0 < da) (h2 : 0 < db) :
    frac (sumF (decide (na < 0)) na.natAbs da.natAbs (less != decide (nb < 0)) nb.natAbs db.natAbs).1 (sumF (decide (na < 0)) na.natAbs da.natAbs (less != decide (nb < 0)) nb.natAbs db.natAbs).2 (da.natAbs * db.natAbs) = fracI (na * db + (if less then -nb else nb) * da) (da.natAbs * db.natAbs) := by
  have hp : 0 < da.natAbs * db.natAbs := Nat.mul_pos (by omega) (by omega)
  unfold fracI
  refine frac_congr _ _ _ _ _ _ hp hp ?_
  rw [sumF_val, sgn_self, sgn_self]
  have e1 : (db.natAbs : Int) = db := by omega
  have e2 : (da.natAbs : Int) = da := by omega
  have e3 : sgn (less != decide (nb < 0)) nb.natAbs = if less then -nb else nb := by
    cases less
    · simp [sgn_self]
    · rw [Bool.true_bne, sgn_not, sgn_self]; rfl
  rw [e3, e1, e2]
theorem blk2_set {w : World} {k : Nat} {x y : Value} (h : Blk w k #[x, y]) (a b : Value) : Blk ((w.setCell ⟨k, 0, none⟩ a).setCell ⟨k, 1, none⟩ b) k #[a, b] := (h.set 0 a).set 1 b
theorem blk2_other {w : World} {k g : Nat} {cs : Array Value} (h : Blk w k cs) (hg : g ≠ k) (a b : Value) : Blk ((w.setCell ⟨g, 0, none⟩ a).setCell ⟨g, 1, none⟩ b) k cs := (h.other hg a).other hg b
theorem below_set2 {B g : Nat} {w w' : World} (h : Below B w w') (hg : B ≤ g) (a b : Value) : Below B w ((w'.setCell ⟨g, 0, none⟩ a).setCell ⟨g, 1, none⟩ b) := (h.setCell hg a).setCell hg b
theorem refV_shape (r : Option (Int × Int)) : ∃ x y k : Int, refV r = .tuple #[.agg #[.int .i64 x, .int .i64 y], .int .i64 k] := by
  cases r with
  | none => exact ⟨0, 0, 9, rfl⟩
  | some p => exact ⟨p.1, p.2, 0, rfl⟩

set_option maxRecDepth 100000 in
set_option maxHeartbeats 2000000 in
theorem refadd_bad (na da nb db : Int) (h1 : In64 na) (h2 : In64 da) (h3 : In64 nb) (h4 : In64 db) (hb : rightB na da = false ∨ rightB nb db = false) (w : World) :
    Calls Tryd.prog 25 #[.agg #[.int .i64 na, .int .i64 da], .agg #[.int .i64 nb, .int .i64 db]] w fun e w' => e = .returned (.tuple #[.agg #[.int .i64 0, .int .i64 0], .int .i64 1]) ∧ Below w.heap.size w w' := by
  have ca := refright_any na da h1 h2
  have cb := refright_any nb db h3 h4
  have hbx := box3 w #[.int .i64 na, .int .i64 da] #[.int .i64 nb, .int .i64 db] #[.int .i64 0, .int .i64 0] 23 23 23
  obtain ⟨ta, tb, tr, hsz, hbw⟩ := hbx
  have TA := Lib.hid ta
  have TB := Lib.hid tb
  have TR := Lib.hid tr
  have HBW := Lib.hid hbw
  have HSZ := Lib.hid hsz
  clear ta tb hsz hbw
  cases ha : rightB na da
  · rw [ha] at ca
    clear cb hb
    go_enter Tryd.func25, Tryd.ntmps25
    go_wp2_with fail
    with_reducible refine (ca _).mono ?_
    rintro e w1 ⟨rfl, hb1⟩
    replace HBW := Lib.hid (bstep HBW.out hb1 (Nat.le_refl _))
    obtain ⟨r0, r1, r2, r3⟩ := (TR.out.keep hb1 (Nat.le_refl _)).two
    clear ca hb1
    go_wp2_with fail
    exact bodyPost_ret (v := .tuple #[.agg #[.int .i64 0, .int .i64 0], .int .i64 1]) (by simp [results, Tryd.results25, go_sem, r0, r1]) rfl ⟨rfl, by first | exact HBW.out | exact below_set2 HBW.out (by omega) _ _⟩
  · have hb2 : rightB nb db = false := by rcases hb with h | h; · rw [ha] at h; cases h
                                          · exact h
    rw [ha] at ca
    rw [hb2] at cb
    clear hb
    go_enter Tryd.func25, Tryd.ntmps25
    go_wp2_with fail
    with_reducible refine (ca _).mono ?_
    rintro e w1 ⟨rfl, hb1⟩
    replace HBW := Lib.hid (bstep HBW.out hb1 (Nat.le_refl _))
    replace TB := Lib.hid (TB.out.keep hb1 (Nat.le_refl _))
    obtain ⟨x0, x1, _, _⟩ := TB.out.two
    replace TR := Lib.hid (TR.out.keep hb1 (Nat.le_refl _))
    clear ca hb1
    go_wp2_with fail
    with_reducible refine (cb _).mono ?_
    rintro e w2 ⟨rfl, hb1⟩
    replace HBW := Lib.hid (bstep HBW.out hb1 (Nat.le_refl _))
    obtain ⟨r0, r1, r2, r3⟩ := (TR.out.keep hb1 (Nat.le_refl _)).two
    clear cb hb1
    go_wp2_with fail
    exact bodyPost_ret (v := .tuple #[.agg #[.int .i64 0, .int .i64 0], .int .i64 1]) (by simp [results, Tryd.results25, go_sem, r0, r1]) rfl ⟨rfl, by first | exact HBW.out | exact below_set2 HBW.out (by omega) _ _⟩

set_option maxRecDepth 100000 in
set_option maxHeartbeats 4000000 in
theorem refadd_ok (na da nb db : Int) (ha : RightP na da) (hb : RightP nb db) (w : World) :
    Calls Tryd.prog 25 #[.agg #[.int .i64 na, .int .i64 da], .agg #[.int .i64 nb, .int .i64 db]] w fun e w' => e = .returned (refV (fracI (na * db + (if false then -nb else nb) * da) (da.natAbs * db.natAbs))) ∧ Below w.heap.size w w' := by
  obtain ⟨a1, a2, a3, a4, a5⟩ := ha
  obtain ⟨b1, b2, b3, b4, b5⟩ := hb
  have ra := (rightB_iff na da ⟨a3, a4⟩ ⟨by omega, by omega⟩).2 ⟨a1, a2, a3, a4, a5⟩
  have rb := (rightB_iff nb db ⟨b3, b4⟩ ⟨by omega, by omega⟩).2 ⟨b1, b2, b3, b4, b5⟩
  have ca := refright_any na da ⟨a3, a4⟩ ⟨by omega, by omega⟩
  have cb := refright_any nb db ⟨b3, b4⟩ ⟨by omega, by omega⟩
  rw [ra] at ca
  rw [rb] at cb
  have ofa := of_any na da ⟨a3, a4⟩ ⟨by omega, by omega⟩
  have ofb := of_any nb db ⟨b3, b4⟩ ⟨by omega, by omega⟩
  have k1 : na.natAbs < 18446744073709551616 := by omega
  have k2 : da.natAbs < 18446744073709551616 := by omega
  have k3 : nb.natAbs < 18446744073709551616 := by omega
  have k4 : db.natAbs < 18446744073709551616 := by omega
  have hDE : 0 < da.natAbs * db.natAbs := Nat.mul_pos (by omega) (by omega)
  have hval := refsum_val na da nb db false (by omega) (by omega)
  rw [Bool.false_bne] at hval
  rw [← hval]
  have hlen := sumF_len (decide (na < 0)) (decide (nb < 0)) k1 k2 k3 k4
  obtain ⟨V, hV⟩ : ∃ V, V = refV (frac (sumF (decide (na < 0)) na.natAbs da.natAbs (decide (nb < 0)) nb.natAbs db.natAbs).1 (sumF (decide (na < 0)) na.natAbs da.natAbs (decide (nb < 0)) nb.natAbs db.natAbs).2 (da.natAbs * db.natAbs)) := ⟨_, rfl⟩
  rw [← hV]
  obtain ⟨X, Y, kk, hsh⟩ := refV_shape (frac (sumF (decide (na < 0)) na.natAbs da.natAbs (decide (nb < 0)) nb.natAbs db.natAbs).1 (sumF (decide (na < 0)) na.natAbs da.natAbs (decide (nb < 0)) nb.natAbs db.natAbs).2 (da.natAbs * db.natAbs))
  have HV := Lib.hid (hV.trans hsh)
  have HSH := Lib.hid hsh
  have HLEN := Lib.hid (And.intro hlen (And.intro hDE (And.intro (And.intro k1 k2) (And.intro k3 k4))))
  clear hV hsh hval hlen hDE k1 k2 k3 k4
  have hbx := box3 w #[.int .i64 na, .int .i64 da] #[.int .i64 nb, .int .i64 db] #[.int .i64 0, .int .i64 0] 23 23 23
  obtain ⟨ta, tb, tr, hsz, hbw⟩ := hbx
  have TA := Lib.hid ta
  have TB := Lib.hid tb
  have TR := Lib.hid tr
  have HBW := Lib.hid hbw
  clear ta tb tr hsz hbw
  clear a1 a2 a3 a4 a5 b1 b2 b3 b4 b5 ra rb
  go_enter Tryd.func25, Tryd.ntmps25
  go_wp2_with fail
  with_reducible refine (ca _).mono ?_
  rintro e w1 ⟨rfl, hb1⟩
  replace HBW := Lib.hid (bstep HBW.out hb1 (Nat.le_refl _))
  replace TA := Lib.hid (TA.out.keep hb1 (Nat.le_refl _))
  replace TB := Lib.hid (TB.out.keep hb1 (Nat.le_refl _))
  replace TR := Lib.hid (TR.out.keep hb1 (Nat.le_refl _))
  obtain ⟨x0, x1, _, _⟩ := TB.out.two
  clear ca hb1
  go_wp2_with fail
  with_reducible refine (cb _).mono ?_
  rintro e w2 ⟨rfl, hb1⟩
  replace HBW := Lib.hid (bstep HBW.out hb1 (Nat.le_refl _))
  replace TA := Lib.hid (TA.out.keep hb1 (Nat.le_refl _))
  replace TB := Lib.hid (TB.out.keep hb1 (Nat.le_refl _))
  replace TR := Lib.hid (TR.out.keep hb1 (Nat.le_refl _))
  clear x0 x1 cb hb1
  obtain ⟨x0, x1, _, _⟩ := TA.out.two
  obtain ⟨y0, y1, _, _⟩ := TB.out.two
  go_wp2_with fail
  refine wp_region_held_drew (S := (fun (w' : World) => w'.cell? ⟨w.heap.size, 0, none⟩ = some (.int .i64 na) ∧ w'.cell? ⟨w.heap.size, 1, none⟩ = some (.int .i64 da) ∧ w'.cell? ⟨w.heap.size + 1, 0, none⟩ = some (.int .i64 nb) ∧ w'.cell? ⟨w.heap.size + 1, 1, none⟩ = some (.int .i64 db) ∧ Blk w' w.heap.size #[.int .i64 na, .int .i64 da] ∧ Blk w' (w.heap.size + 1) #[.int .i64 nb, .int .i64 db] ∧ Below w.heap.size w w' ∧ ∃ x y, Blk w' (w.heap.size + 1 + 1) #[x, y])) (by kernel_rfl) ⟨x0, x1, y0, y1, TA.out.keep (Below.refl _ _).drew (Nat.le_refl _), TB.out.keep (Below.refl _ _).drew (Nat.le_refl _), HBW.out.drew, _, _, TR.out.keep (Below.refl _ _).drew (Nat.le_refl _)⟩ (fun hHeld => ?_)
  refine held_take 0 (v := ?_) rfl (by kernel_rfl) (by kernel_rfl) (by kernel_rfl) (fun _ _ _ h => h) (by assumption) ?_ ?_
  rotate_left
  · first | (refine Or.inr ⟨?_, ?_⟩ <;> rfl) | (refine Or.inl ⟨by rfl, ?_⟩; intro w hSw; (try dsimp only at hSw); first | (go_simp; done) | (go_simp; with_reducible rfl))
  try simp only [Act.put, List.setIfInBounds_toArray, List.set_cons_zero, List.set_cons_succ]
  refine held_take 2 (v := ?_) rfl (by kernel_rfl) (by kernel_rfl) (by kernel_rfl) (fun _ _ _ h => h) (by assumption) ?_ ?_
  rotate_left
  · first | (refine Or.inr ⟨?_, ?_⟩ <;> rfl) | (refine Or.inl ⟨by rfl, ?_⟩; intro w hSw; (try dsimp only at hSw); first | (go_simp; done) | (go_simp; with_reducible rfl))
  try simp only [Act.put, List.setIfInBounds_toArray, List.set_cons_zero, List.set_cons_succ]
  refine held_call 1 rfl (by kernel_rfl) (fun K hK => ?_)
  go_simp
  with_reducible refine (ofa _).mono ?_
  rintro e w3 ⟨_, rfl, hf3, hbk⟩
  have hb3 := hbk
  refine hK.out _ _ ?_ (fun hHeld => ?_)
  · first | exact hHeld | exact ⟨cell_keep' hHeld.1 hbk, cell_keep' hHeld.2.1 hbk, cell_keep' hHeld.2.2.1 hbk, cell_keep' hHeld.2.2.2.1 hbk, hHeld.2.2.2.2.1.keep hbk (Nat.le_refl _), hHeld.2.2.2.2.2.1.keep hbk (Nat.le_refl _), bstep hHeld.2.2.2.2.2.2.1 hbk (Nat.le_refl _), hHeld.2.2.2.2.2.2.2.imp fun _ => Exists.imp fun _ h => h.keep hbk (Nat.le_refl _)⟩
  clear hK K
  try simp only [Act.put, List.setIfInBounds_toArray, List.set_cons_zero, List.set_cons_succ]
  refine held_call 3 rfl (by kernel_rfl) (fun K hK => ?_)
  go_simp
  with_reducible refine (ofb _).mono ?_
  rintro e w4 ⟨_, rfl, hf4, hbk⟩
  have hb4 := hbk
  refine hK.out _ _ ?_ (fun hHeld => ?_)
  · first | exact hHeld | exact ⟨cell_keep' hHeld.1 hbk, cell_keep' hHeld.2.1 hbk, cell_keep' hHeld.2.2.1 hbk, cell_keep' hHeld.2.2.2.1 hbk, hHeld.2.2.2.2.1.keep hbk (Nat.le_refl _), hHeld.2.2.2.2.2.1.keep hbk (Nat.le_refl _), bstep hHeld.2.2.2.2.2.2.1 hbk (Nat.le_refl _), hHeld.2.2.2.2.2.2.2.imp fun _ => Exists.imp fun _ h => h.keep hbk (Nat.le_refl _)⟩
  clear hK K
  try simp only [Act.put, List.setIfInBounds_toArray, List.set_cons_zero, List.set_cons_succ]
  refine held_call 4 rfl (by kernel_rfl) (fun K hK => ?_)
  go_simp
  with_reducible refine (refsum_any _ _ _ _ _ _ (by have := digs64 HLEN.out.2.2.1.1; omega) (by have := digs64 HLEN.out.2.2.1.2; omega) (by have := digs64 HLEN.out.2.2.2.1; omega) (by have := digs64 HLEN.out.2.2.2.2; omega) _ _ _ (hf3.keep hb4) hf4).mono ?_
  rintro e w5 ⟨_, rfl, ⟨_, _, rfl, ⟨an, cn, rfl, hsn⟩, ⟨ad, cd, rfl, hsd⟩⟩, hbk⟩
  refine hK.out _ _ ?_ (fun hHeld => ?_)
  · first | exact hHeld | exact ⟨cell_keep' hHeld.1 hbk, cell_keep' hHeld.2.1 hbk, cell_keep' hHeld.2.2.1 hbk, cell_keep' hHeld.2.2.2.1 hbk, hHeld.2.2.2.2.1.keep hbk (Nat.le_refl _), hHeld.2.2.2.2.2.1.keep hbk (Nat.le_refl _), bstep hHeld.2.2.2.2.2.2.1 hbk (Nat.le_refl _), hHeld.2.2.2.2.2.2.2.imp fun _ => Exists.imp fun _ h => h.keep hbk (Nat.le_refl _)⟩
  clear hK K
  try simp only [Act.put, List.setIfInBounds_toArray, List.set_cons_zero, List.set_cons_succ]
  refine held_call 5 rfl (by kernel_rfl) (fun K hK => ?_)
  go_simp
  with_reducible refine (lowest_any _ _ _ HLEN.out.2.1 (Nat.le_trans HLEN.out.1 (by decide)) (Nat.le_trans (len_mul (digs64 HLEN.out.2.2.1.2) (digs64 HLEN.out.2.2.2.2)) (by decide)) _ _ _ _ _ hsn hsd).mono ?_
  rw [HSH.out]
  rintro e w6 ⟨rfl, hbk⟩
  refine hK.out _ _ ?_ (fun hHeld => ?_)
  · first | exact hHeld | exact ⟨cell_keep' hHeld.1 hbk, cell_keep' hHeld.2.1 hbk, cell_keep' hHeld.2.2.1 hbk, cell_keep' hHeld.2.2.2.1 hbk, hHeld.2.2.2.2.1.keep hbk (Nat.le_refl _), hHeld.2.2.2.2.2.1.keep hbk (Nat.le_refl _), bstep hHeld.2.2.2.2.2.2.1 hbk (Nat.le_refl _), hHeld.2.2.2.2.2.2.2.imp fun _ => Exists.imp fun _ h => h.keep hbk (Nat.le_refl _)⟩
  clear hK K
  try simp only [Act.put, List.setIfInBounds_toArray, List.set_cons_zero, List.set_cons_succ]
  refine held_take 6 (v := ?_) rfl (by kernel_rfl) (by kernel_rfl) (by kernel_rfl) (fun _ _ _ h => h) (by assumption) ?_ ?_
  rotate_left
  · first | (refine Or.inr ⟨?_, ?_⟩ <;> rfl) | (refine Or.inl ⟨by rfl, ?_⟩; intro w hSw; (try dsimp only at hSw); first | (go_simp; done) | (go_simp; with_reducible rfl))
  try simp only [Act.put, List.setIfInBounds_toArray, List.set_cons_zero, List.set_cons_succ]
  refine held_take 7 (v := ?_) rfl (by kernel_rfl) (by kernel_rfl) (by kernel_rfl) (fun _ _ _ h => h) (by assumption) ?_ ?_
  rotate_left
  · first | (refine Or.inr ⟨?_, ?_⟩ <;> rfl) | (refine Or.inl ⟨by rfl, ?_⟩; intro w hSw; (try dsimp only at hSw); first | (go_simp; done) | (go_simp; with_reducible rfl))
  try simp only [Act.put, List.setIfInBounds_toArray, List.set_cons_zero, List.set_cons_succ]
  refine held_call 8 rfl (by kernel_rfl) (fun K hK => ?_)
  obtain ⟨q0, q1, hq⟩ := hHeld.2.2.2.2.2.2.2
  obtain ⟨z0, z1, z2, z3⟩ := hq.two
  have HQ := Lib.hid (blk2_set hq (.int .i64 X) (.int .i64 Y))
  have HBW2 := Lib.hid (below_set2 hHeld.2.2.2.2.2.2.1 (Nat.le_add_right w.heap.size 2) (.int .i64 X) (.int .i64 Y))
  have HT := Lib.hid (blk2_other hHeld.2.2.2.2.1 (show w.heap.size + 1 + 1 ≠ w.heap.size by omega) (.int .i64 X) (.int .i64 Y))
  have HT2 := Lib.hid (blk2_other hHeld.2.2.2.2.2.1 (show w.heap.size + 1 + 1 ≠ w.heap.size + 1 by omega) (.int .i64 X) (.int .i64 Y))
  go_simp
  refine hK.out _ _ ?_ (fun hHeld2 => ?_)
  · exact ⟨HT.out.two.1, HT.out.two.2.1, HT2.out.two.1, HT2.out.two.2.1, HT.out, HT2.out, HBW2.out, _, _, HQ.out⟩
  clear hK K hHeld z0 z1 z2 z3 hq
  try simp only [Act.put, List.setIfInBounds_toArray, List.set_cons_zero, List.set_cons_succ]
  refine held_call 9 rfl (by kernel_rfl) (fun K hK => ?_)
  go_simp
  refine hK.out _ _ hHeld2 (fun hHeld => ?_)
  clear hK K hHeld2
  try simp only [Act.put, List.setIfInBounds_toArray, List.set_cons_zero, List.set_cons_succ]
  refine wpAnyH_done (by kernel_rfl) ?_ _
  obtain ⟨z0, z1, z2, z3⟩ := HQ.out.two
  go_wp2_with fail
  exact bodyPost_ret (v := .tuple #[.agg #[.int .i64 X, .int .i64 Y], .int .i64 kk]) (by simp [results, Tryd.results25, go_sem, z0, z1]) rfl ⟨by rw [HV.out], HBW2.out⟩

set_option maxRecDepth 100000 in
set_option maxHeartbeats 2000000 in
theorem refsub_bad (na da nb db : Int) (h1 : In64 na) (h2 : In64 da) (h3 : In64 nb) (h4 : In64 db) (hb : rightB na da = false ∨ rightB nb db = false) (w : World) :
    Calls Tryd.prog 26 #[.agg #[.int .i64 na, .int .i64 da], .agg #[.int .i64 nb, .int .i64 db]] w fun e w' => e = .returned (.tuple #[.agg #[.int .i64 0, .int .i64 0], .int .i64 1]) ∧ Below w.heap.size w w' := by
  have ca := refright_any na da h1 h2
  have cb := refright_any nb db h3 h4
  have hbx := box3 w #[.int .i64 na, .int .i64 da] #[.int .i64 nb, .int .i64 db] #[.int .i64 0, .int .i64 0] 23 23 23
  obtain ⟨ta, tb, tr, hsz, hbw⟩ := hbx
  have TA := Lib.hid ta
  have TB := Lib.hid tb
  have TR := Lib.hid tr
  have HBW := Lib.hid hbw
  have HSZ := Lib.hid hsz
  clear ta tb hsz hbw
  cases ha : rightB na da
  · rw [ha] at ca
    clear cb hb
    go_enter Tryd.func26, Tryd.ntmps26
    go_wp2_with fail
    with_reducible refine (ca _).mono ?_
    rintro e w1 ⟨rfl, hb1⟩
    replace HBW := Lib.hid (bstep HBW.out hb1 (Nat.le_refl _))
    obtain ⟨r0, r1, r2, r3⟩ := (TR.out.keep hb1 (Nat.le_refl _)).two
    clear ca hb1
    go_wp2_with fail
    exact bodyPost_ret (v := .tuple #[.agg #[.int .i64 0, .int .i64 0], .int .i64 1]) (by simp [results, Tryd.results26, go_sem, r0, r1]) rfl ⟨rfl, by first | exact HBW.out | exact below_set2 HBW.out (by omega) _ _⟩
  · have hb2 : rightB nb db = false := by rcases hb with h | h; · rw [ha] at h; cases h
                                          · exact h
    rw [ha] at ca
    rw [hb2] at cb
    clear hb
    go_enter Tryd.func26, Tryd.ntmps26
    go_wp2_with fail
    with_reducible refine (ca _).mono ?_
    rintro e w1 ⟨rfl, hb1⟩
    replace HBW := Lib.hid (bstep HBW.out hb1 (Nat.le_refl _))
    replace TB := Lib.hid (TB.out.keep hb1 (Nat.le_refl _))
    obtain ⟨x0, x1, _, _⟩ := TB.out.two
    replace TR := Lib.hid (TR.out.keep hb1 (Nat.le_refl _))
    clear ca hb1
    go_wp2_with fail
    with_reducible refine (cb _).mono ?_
    rintro e w2 ⟨rfl, hb1⟩
    replace HBW := Lib.hid (bstep HBW.out hb1 (Nat.le_refl _))
    obtain ⟨r0, r1, r2, r3⟩ := (TR.out.keep hb1 (Nat.le_refl _)).two
    clear cb hb1
    go_wp2_with fail
    exact bodyPost_ret (v := .tuple #[.agg #[.int .i64 0, .int .i64 0], .int .i64 1]) (by simp [results, Tryd.results26, go_sem, r0, r1]) rfl ⟨rfl, by first | exact HBW.out | exact below_set2 HBW.out (by omega) _ _⟩

set_option maxRecDepth 100000 in
set_option maxHeartbeats 4000000 in
theorem refsub_ok (na da nb db : Int) (ha : RightP na da) (hb : RightP nb db) (w : World) :
    Calls Tryd.prog 26 #[.agg #[.int .i64 na, .int .i64 da], .agg #[.int .i64 nb, .int .i64 db]] w fun e w' => e = .returned (refV (fracI (na * db + (if true then -nb else nb) * da) (da.natAbs * db.natAbs))) ∧ Below w.heap.size w w' := by
  obtain ⟨a1, a2, a3, a4, a5⟩ := ha
  obtain ⟨b1, b2, b3, b4, b5⟩ := hb
  have ra := (rightB_iff na da ⟨a3, a4⟩ ⟨by omega, by omega⟩).2 ⟨a1, a2, a3, a4, a5⟩
  have rb := (rightB_iff nb db ⟨b3, b4⟩ ⟨by omega, by omega⟩).2 ⟨b1, b2, b3, b4, b5⟩
  have ca := refright_any na da ⟨a3, a4⟩ ⟨by omega, by omega⟩
  have cb := refright_any nb db ⟨b3, b4⟩ ⟨by omega, by omega⟩
  rw [ra] at ca
  rw [rb] at cb
  have ofa := of_any na da ⟨a3, a4⟩ ⟨by omega, by omega⟩
  have ofb := of_any nb db ⟨b3, b4⟩ ⟨by omega, by omega⟩
  have k1 : na.natAbs < 18446744073709551616 := by omega
  have k2 : da.natAbs < 18446744073709551616 := by omega
  have k3 : nb.natAbs < 18446744073709551616 := by omega
  have k4 : db.natAbs < 18446744073709551616 := by omega
  have hDE : 0 < da.natAbs * db.natAbs := Nat.mul_pos (by omega) (by omega)
  have hval := refsum_val na da nb db true (by omega) (by omega)
  rw [Bool.true_bne] at hval
  rw [← hval]
  have hlen := sumF_len (decide (na < 0)) (!decide (nb < 0)) k1 k2 k3 k4
  obtain ⟨V, hV⟩ : ∃ V, V = refV (frac (sumF (decide (na < 0)) na.natAbs da.natAbs (!decide (nb < 0)) nb.natAbs db.natAbs).1 (sumF (decide (na < 0)) na.natAbs da.natAbs (!decide (nb < 0)) nb.natAbs db.natAbs).2 (da.natAbs * db.natAbs)) := ⟨_, rfl⟩
  rw [← hV]
  obtain ⟨X, Y, kk, hsh⟩ := refV_shape (frac (sumF (decide (na < 0)) na.natAbs da.natAbs (!decide (nb < 0)) nb.natAbs db.natAbs).1 (sumF (decide (na < 0)) na.natAbs da.natAbs (!decide (nb < 0)) nb.natAbs db.natAbs).2 (da.natAbs * db.natAbs))
  have HV := Lib.hid (hV.trans hsh)
  have HSH := Lib.hid hsh
  have HLEN := Lib.hid (And.intro hlen (And.intro hDE (And.intro (And.intro k1 k2) (And.intro k3 k4))))
  clear hV hsh hval hlen hDE k1 k2 k3 k4
  have hbx := box3 w #[.int .i64 na, .int .i64 da] #[.int .i64 nb, .int .i64 db] #[.int .i64 0, .int .i64 0] 23 23 23
  obtain ⟨ta, tb, tr, hsz, hbw⟩ := hbx
  have TA := Lib.hid ta
  have TB := Lib.hid tb
  have TR := Lib.hid tr
  have HBW := Lib.hid hbw
  clear ta tb tr hsz hbw
  clear a1 a2 a3 a4 a5 b1 b2 b3 b4 b5 ra rb
  go_enter Tryd.func26, Tryd.ntmps26
  go_wp2_with fail
  with_reducible refine (ca _).mono ?_
  rintro e w1 ⟨rfl, hb1⟩
  replace HBW := Lib.hid (bstep HBW.out hb1 (Nat.le_refl _))
  replace TA := Lib.hid (TA.out.keep hb1 (Nat.le_refl _))
  replace TB := Lib.hid (TB.out.keep hb1 (Nat.le_refl _))
  replace TR := Lib.hid (TR.out.keep hb1 (Nat.le_refl _))
  obtain ⟨x0, x1, _, _⟩ := TB.out.two
  clear ca hb1
  go_wp2_with fail
  with_reducible refine (cb _).mono ?_
  rintro e w2 ⟨rfl, hb1⟩
  replace HBW := Lib.hid (bstep HBW.out hb1 (Nat.le_refl _))
  replace TA := Lib.hid (TA.out.keep hb1 (Nat.le_refl _))
  replace TB := Lib.hid (TB.out.keep hb1 (Nat.le_refl _))
  replace TR := Lib.hid (TR.out.keep hb1 (Nat.le_refl _))
  clear x0 x1 cb hb1
  obtain ⟨x0, x1, _, _⟩ := TA.out.two
  obtain ⟨y0, y1, _, _⟩ := TB.out.two
  go_wp2_with fail
  refine wp_region_held_drew (S := (fun (w' : World) => w'.cell? ⟨w.heap.size, 0, none⟩ = some (.int .i64 na) ∧ w'.cell? ⟨w.heap.size, 1, none⟩ = some (.int .i64 da) ∧ w'.cell? ⟨w.heap.size + 1, 0, none⟩ = some (.int .i64 nb) ∧ w'.cell? ⟨w.heap.size + 1, 1, none⟩ = some (.int .i64 db) ∧ Blk w' w.heap.size #[.int .i64 na, .int .i64 da] ∧ Blk w' (w.heap.size + 1) #[.int .i64 nb, .int .i64 db] ∧ Below w.heap.size w w' ∧ ∃ x y, Blk w' (w.heap.size + 1 + 1) #[x, y])) (by kernel_rfl) ⟨x0, x1, y0, y1, TA.out.keep (Below.refl _ _).drew (Nat.le_refl _), TB.out.keep (Below.refl _ _).drew (Nat.le_refl _), HBW.out.drew, _, _, TR.out.keep (Below.refl _ _).drew (Nat.le_refl _)⟩ (fun hHeld => ?_)
  refine held_take 0 (v := ?_) rfl (by kernel_rfl) (by kernel_rfl) (by kernel_rfl) (fun _ _ _ h => h) (by assumption) ?_ ?_
  rotate_left
  · first | (refine Or.inr ⟨?_, ?_⟩ <;> rfl) | (refine Or.inl ⟨by rfl, ?_⟩; intro w hSw; (try dsimp only at hSw); first | (go_simp; done) | (go_simp; with_reducible rfl))
  try simp only [Act.put, List.setIfInBounds_toArray, List.set_cons_zero, List.set_cons_succ]
  refine held_take 2 (v := ?_) rfl (by kernel_rfl) (by kernel_rfl) (by kernel_rfl) (fun _ _ _ h => h) (by assumption) ?_ ?_
  rotate_left
  · first | (refine Or.inr ⟨?_, ?_⟩ <;> rfl) | (refine Or.inl ⟨by rfl, ?_⟩; intro w hSw; (try dsimp only at hSw); first | (go_simp; done) | (go_simp; with_reducible rfl))
  try simp only [Act.put, List.setIfInBounds_toArray, List.set_cons_zero, List.set_cons_succ]
  refine held_call 1 rfl (by kernel_rfl) (fun K hK => ?_)
  go_simp
  with_reducible refine (ofa _).mono ?_
  rintro e w3 ⟨_, rfl, hf3, hbk⟩
  have hb3 := hbk
  refine hK.out _ _ ?_ (fun hHeld => ?_)
  · first | exact hHeld | exact ⟨cell_keep' hHeld.1 hbk, cell_keep' hHeld.2.1 hbk, cell_keep' hHeld.2.2.1 hbk, cell_keep' hHeld.2.2.2.1 hbk, hHeld.2.2.2.2.1.keep hbk (Nat.le_refl _), hHeld.2.2.2.2.2.1.keep hbk (Nat.le_refl _), bstep hHeld.2.2.2.2.2.2.1 hbk (Nat.le_refl _), hHeld.2.2.2.2.2.2.2.imp fun _ => Exists.imp fun _ h => h.keep hbk (Nat.le_refl _)⟩
  clear hK K
  try simp only [Act.put, List.setIfInBounds_toArray, List.set_cons_zero, List.set_cons_succ]
  refine held_call 3 rfl (by kernel_rfl) (fun K hK => ?_)
  go_simp
  with_reducible refine (ofb _).mono ?_
  rintro e w4 ⟨_, rfl, hf4, hbk⟩
  have hb4 := hbk
  refine hK.out _ _ ?_ (fun hHeld => ?_)
  · first | exact hHeld | exact ⟨cell_keep' hHeld.1 hbk, cell_keep' hHeld.2.1 hbk, cell_keep' hHeld.2.2.1 hbk, cell_keep' hHeld.2.2.2.1 hbk, hHeld.2.2.2.2.1.keep hbk (Nat.le_refl _), hHeld.2.2.2.2.2.1.keep hbk (Nat.le_refl _), bstep hHeld.2.2.2.2.2.2.1 hbk (Nat.le_refl _), hHeld.2.2.2.2.2.2.2.imp fun _ => Exists.imp fun _ h => h.keep hbk (Nat.le_refl _)⟩
  clear hK K
  try simp only [Act.put, List.setIfInBounds_toArray, List.set_cons_zero, List.set_cons_succ]
  refine held_call 4 rfl (by kernel_rfl) (fun K hK => ?_)
  go_simp
  with_reducible refine (opposite_any _ _ _ _ _ hf4).mono ?_
  rintro e w7 ⟨_, rfl, hf7, hbk⟩
  have hb7 := hbk
  refine hK.out _ _ ?_ (fun hHeld => ?_)
  · first | exact hHeld | exact ⟨cell_keep' hHeld.1 hbk, cell_keep' hHeld.2.1 hbk, cell_keep' hHeld.2.2.1 hbk, cell_keep' hHeld.2.2.2.1 hbk, hHeld.2.2.2.2.1.keep hbk (Nat.le_refl _), hHeld.2.2.2.2.2.1.keep hbk (Nat.le_refl _), bstep hHeld.2.2.2.2.2.2.1 hbk (Nat.le_refl _), hHeld.2.2.2.2.2.2.2.imp fun _ => Exists.imp fun _ h => h.keep hbk (Nat.le_refl _)⟩
  clear hK K
  try simp only [Act.put, List.setIfInBounds_toArray, List.set_cons_zero, List.set_cons_succ]
  refine held_call 5 rfl (by kernel_rfl) (fun K hK => ?_)
  go_simp
  with_reducible refine (refsum_any _ _ _ _ _ _ (by have := digs64 HLEN.out.2.2.1.1; omega) (by have := digs64 HLEN.out.2.2.1.2; omega) (by have := digs64 HLEN.out.2.2.2.1; omega) (by have := digs64 HLEN.out.2.2.2.2; omega) _ _ _ ((hf3.keep hb4).keep hb7) hf7).mono ?_
  rintro e w5 ⟨_, rfl, ⟨_, _, rfl, ⟨an, cn, rfl, hsn⟩, ⟨ad, cd, rfl, hsd⟩⟩, hbk⟩
  refine hK.out _ _ ?_ (fun hHeld => ?_)
  · first | exact hHeld | exact ⟨cell_keep' hHeld.1 hbk, cell_keep' hHeld.2.1 hbk, cell_keep' hHeld.2.2.1 hbk, cell_keep' hHeld.2.2.2.1 hbk, hHeld.2.2.2.2.1.keep hbk (Nat.le_refl _), hHeld.2.2.2.2.2.1.keep hbk (Nat.le_refl _), bstep hHeld.2.2.2.2.2.2.1 hbk (Nat.le_refl _), hHeld.2.2.2.2.2.2.2.imp fun _ => Exists.imp fun _ h => h.keep hbk (Nat.le_refl _)⟩
  clear hK K
  try simp only [Act.put, List.setIfInBounds_toArray, List.set_cons_zero, List.set_cons_succ]
  refine held_call 6 rfl (by kernel_rfl) (fun K hK => ?_)
  go_simp
  with_reducible refine (lowest_any _ _ _ HLEN.out.2.1 (Nat.le_trans HLEN.out.1 (by decide)) (Nat.le_trans (len_mul (digs64 HLEN.out.2.2.1.2) (digs64 HLEN.out.2.2.2.2)) (by decide)) _ _ _ _ _ hsn hsd).mono ?_
  rw [HSH.out]
  rintro e w6 ⟨rfl, hbk⟩
  refine hK.out _ _ ?_ (fun hHeld => ?_)
  · first | exact hHeld | exact ⟨cell_keep' hHeld.1 hbk, cell_keep' hHeld.2.1 hbk, cell_keep' hHeld.2.2.1 hbk, cell_keep' hHeld.2.2.2.1 hbk, hHeld.2.2.2.2.1.keep hbk (Nat.le_refl _), hHeld.2.2.2.2.2.1.keep hbk (Nat.le_refl _), bstep hHeld.2.2.2.2.2.2.1 hbk (Nat.le_refl _), hHeld.2.2.2.2.2.2.2.imp fun _ => Exists.imp fun _ h => h.keep hbk (Nat.le_refl _)⟩
  clear hK K
  try simp only [Act.put, List.setIfInBounds_toArray, List.set_cons_zero, List.set_cons_succ]
  refine held_take 7 (v := ?_) rfl (by kernel_rfl) (by kernel_rfl) (by kernel_rfl) (fun _ _ _ h => h) (by assumption) ?_ ?_
  rotate_left
  · first | (refine Or.inr ⟨?_, ?_⟩ <;> rfl) | (refine Or.inl ⟨by rfl, ?_⟩; intro w hSw; (try dsimp only at hSw); first | (go_simp; done) | (go_simp; with_reducible rfl))
  try simp only [Act.put, List.setIfInBounds_toArray, List.set_cons_zero, List.set_cons_succ]
  refine held_take 8 (v := ?_) rfl (by kernel_rfl) (by kernel_rfl) (by kernel_rfl) (fun _ _ _ h => h) (by assumption) ?_ ?_
  rotate_left
  · first | (refine Or.inr ⟨?_, ?_⟩ <;> rfl) | (refine Or.inl ⟨by rfl, ?_⟩; intro w hSw; (try dsimp only at hSw); first | (go_simp; done) | (go_simp; with_reducible rfl))
  try simp only [Act.put, List.setIfInBounds_toArray, List.set_cons_zero, List.set_cons_succ]
  refine held_call 9 rfl (by kernel_rfl) (fun K hK => ?_)
  obtain ⟨q0, q1, hq⟩ := hHeld.2.2.2.2.2.2.2
  obtain ⟨z0, z1, z2, z3⟩ := hq.two
  have HQ := Lib.hid (blk2_set hq (.int .i64 X) (.int .i64 Y))
  have HBW2 := Lib.hid (below_set2 hHeld.2.2.2.2.2.2.1 (Nat.le_add_right w.heap.size 2) (.int .i64 X) (.int .i64 Y))
  have HT := Lib.hid (blk2_other hHeld.2.2.2.2.1 (show w.heap.size + 1 + 1 ≠ w.heap.size by omega) (.int .i64 X) (.int .i64 Y))
  have HT2 := Lib.hid (blk2_other hHeld.2.2.2.2.2.1 (show w.heap.size + 1 + 1 ≠ w.heap.size + 1 by omega) (.int .i64 X) (.int .i64 Y))
  go_simp
  refine hK.out _ _ ?_ (fun hHeld2 => ?_)
  · exact ⟨HT.out.two.1, HT.out.two.2.1, HT2.out.two.1, HT2.out.two.2.1, HT.out, HT2.out, HBW2.out, _, _, HQ.out⟩
  clear hK K hHeld z0 z1 z2 z3 hq
  try simp only [Act.put, List.setIfInBounds_toArray, List.set_cons_zero, List.set_cons_succ]
  refine held_call 10 rfl (by kernel_rfl) (fun K hK => ?_)
  go_simp
  refine hK.out _ _ hHeld2 (fun hHeld => ?_)
  clear hK K hHeld2
  try simp only [Act.put, List.setIfInBounds_toArray, List.set_cons_zero, List.set_cons_succ]
  refine wpAnyH_done (by kernel_rfl) ?_ _
  obtain ⟨z0, z1, z2, z3⟩ := HQ.out.two
  go_wp2_with fail
  exact bodyPost_ret (v := .tuple #[.agg #[.int .i64 X, .int .i64 Y], .int .i64 kk]) (by simp [results, Tryd.results26, go_sem, z0, z1]) rfl ⟨by rw [HV.out], HBW2.out⟩

end Go.Proofs.YtaipghojggiopaaDoor
