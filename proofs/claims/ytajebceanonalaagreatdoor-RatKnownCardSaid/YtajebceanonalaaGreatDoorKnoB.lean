/-
  RatKnown: knownEnds.
-/
import Derived.Test.YtajebceanonalaaGreatDoorKnoA
import Derived.Test.YtajebceanonalaaGreatDoorRefB
import Derived.Test.YtajebceanonalaaGreatDoorHolds

namespace Go.Proofs.YtajebceanonalaaGreatDoor
set_option linter.unusedVariables false
open Go.RowKit

def newF (n d : Int) : Option (Int × Int) := if d = 0 then none else frac (decide (n < 0) != decide (d < 0)) n.natAbs d.natAbs
theorem newF_in {n d x y : Int} (h : newF n d = some (x, y)) : In64 x ∧ In64 y := by
  unfold newF at h
  split at h
  · cases h
  · exact fitE_in (show fitE _ _ _ = some (x, y) from h)
theorem knew_some {n d x y : Int} (hn : In64 n) (hd : In64 d) (h : newF n d = some (x, y)) (w : World) :
    Calls Tryz.prog 40 #[.int .i64 n, .int .i64 d] w fun e w' => e = .returned (.tuple #[.agg #[.int .i64 x, .int .i64 y], .nilIface]) ∧ Below w.heap.size w w' := by
  refine ret_turn (new_any n d hn hd w) ?_
  unfold newF at h
  split at h
  · cases h
  · rename_i h0
    rw [if_neg h0, h]; rfl
theorem knew_none {n d : Int} (hn : In64 n) (hd : In64 d) (h : newF n d = none) : ∃ m : Int, ∀ w : World,
    Calls Tryz.prog 40 #[.int .i64 n, .int .i64 d] w fun e w' => e = .returned (.tuple #[.agg #[.int .i64 0, .int .i64 0], .iface 36 (.int .i64 m)]) ∧ Below w.heap.size w w' := by
  unfold newF at h
  split at h
  · rename_i h0
    exact ⟨10, fun w => ret_turn (new_any n d hn hd w) (by rw [if_pos h0]; rfl)⟩
  · rename_i h0
    exact ⟨9, fun w => ret_turn (new_any n d hn hd w) (by rw [if_neg h0, h]; rfl)⟩
theorem all_in {l : List Int} (h : l.all in64B = true) (k : Nat) : In64 (l.getD k 0) := by
  by_cases hk : k < l.length
  · rw [show l.getD k 0 = l[k] by simp [List.getD, hk]]
    exact in64B_iff (List.all_eq_true.1 h _ (List.getElem_mem hk))
  · rw [show l.getD k 0 = 0 by simp [List.getD, List.getElem?_eq_none (Nat.le_of_not_lt hk)]]
    exact ⟨by decide, by decide⟩

def densL : List Int := [1, 2, 5, 8, 10, 25, 40, 3, 7, 12, 4611686018427387904, 7450580596923828125, 9223372036854775807, 1000000000000000000, 0, -1]
def numsL : List Int := [0, 1, -1, 3, -3, 7, 9223372036854775807, -9223372036854775808, 4611686018427387905, 999999999999999999]
def denK (k : Nat) : Int := densL.getD k 0
def numK (k : Nat) : Int := numsL.getD k 0
theorem den_in (k : Nat) : In64 (denK k) := all_in (by decide +kernel) k
theorem num_in (k : Nat) : In64 (numK k) := all_in (by decide +kernel) k
theorem kprint0 (w : World) (hp : PowTab w) : Calls Tryz.prog 9 #[.agg #[.int .i64 1, .int .i64 8]] w fun e w' => e = .returned (.tuple #[.string ⟨#[48, 46, 49, 50, 53]⟩, .nilIface]) ∧ Below w.heap.size w w' :=
  ret_turn (print_any (1) (8) ⟨by decide, by decide⟩ ⟨by decide, by decide⟩ w hp) (by kernel_rfl)
theorem kprint1 (w : World) (hp : PowTab w) : Calls Tryz.prog 9 #[.agg #[.int .i64 (-1), .int .i64 3]] w fun e w' => e = .returned (.tuple #[.string ⟨#[45, 49, 47, 51]⟩, .nilIface]) ∧ Below w.heap.size w w' :=
  ret_turn (print_any (-1) (3) ⟨by decide, by decide⟩ ⟨by decide, by decide⟩ w hp) (by kernel_rfl)
theorem kprint2 (w : World) (hp : PowTab w) : Calls Tryz.prog 9 #[.agg #[.int .i64 (-1), .int .i64 1000]] w fun e w' => e = .returned (.tuple #[.string ⟨#[45, 48, 46, 48, 48, 49]⟩, .nilIface]) ∧ Below w.heap.size w w' :=
  ret_turn (print_any (-1) (1000) ⟨by decide, by decide⟩ ⟨by decide, by decide⟩ w hp) (by kernel_rfl)
theorem kprint3 (w : World) (hp : PowTab w) : Calls Tryz.prog 9 #[.agg #[.int .i64 2, .int .i64 4]] w fun e w' => e = .returned (.tuple #[.string ⟨#[]⟩, errV 1]) ∧ Below w.heap.size w w' :=
  ret_turn (print_any (2) (4) ⟨by decide, by decide⟩ ⟨by decide, by decide⟩ w hp) (by kernel_rfl)
/-- the four laws at one fraction -/
def EndAt (n d : Int) (w : World) : Prop :=
  (Calls Tryz.prog 43 #[.agg #[.int .i64 n, .int .i64 d]] w fun e w' => e = .returned (.bool true) ∧ Below w.heap.size w w') ∧
  (Calls Tryz.prog 4 #[.agg #[.int .i64 n, .int .i64 d]] w fun e w' => e = .returned (.bool true) ∧ Below w.heap.size w w') ∧
  (Calls Tryz.prog 44 #[.agg #[.int .i64 n, .int .i64 d]] w fun e w' => e = .returned (.bool true) ∧ Below w.heap.size w w')
theorem EndAt.a1 {n d : Int} {w : World} (h : EndAt n d w) : Calls Tryz.prog 43 #[.agg #[.int .i64 n, .int .i64 d]] w fun e w' => e = .returned (.bool true) ∧ Below w.heap.size w w' := h.1
theorem EndAt.a2 {n d : Int} {w : World} (h : EndAt n d w) : Calls Tryz.prog 4 #[.agg #[.int .i64 n, .int .i64 d]] w fun e w' => e = .returned (.bool true) ∧ Below w.heap.size w w' := h.2.1
theorem EndAt.a3 {n d : Int} {w : World} (h : EndAt n d w) : Calls Tryz.prog 44 #[.agg #[.int .i64 n, .int .i64 d]] w fun e w' => e = .returned (.bool true) ∧ Below w.heap.size w w' := h.2.2
def EndOK (n d : Int) : Prop := ∀ w, LaidT w → PowTab w → EndAt n d w
theorem EndOK.at {n d : Int} {w : World} (h : EndOK n d) (hg : LaidT w) (hp : PowTab w) : EndAt n d w := h w hg hp
theorem endOK (n d : Int) (h1 : In64 n) (h2 : In64 d) : EndOK n d := fun w hg hp => ⟨ratprints_any n d h1 h2 w hp hg, ratthere_any n d h1 h2 w hp, ratNear_walk n d h1 h2 w⟩

set_option maxRecDepth 100000 in
set_option maxHeartbeats 8000000 in
theorem knownEnds_any (w : World) (hg : LaidT w) (hp : PowTab w) :
    Calls Tryz.prog 14 #[] w fun e w' => e = .returned (.bool true) ∧ Below w.heap.size w w' := by
  have HG := Lib.hid hg
  have HP := Lib.hid hp
  have HB := Lib.hid (Below.refl w.heap.size w)
  clear hg hp
  obtain ⟨w0, hw0⟩ : ∃ x, x = w := ⟨_, rfl⟩
  subst hw0
  go_enter Tryz.func14, Tryz.ntmps14
  go_wp2_with fail
  have HSZ := Lib.hid (rfl : w0.heap.size = w0.heap.size)
  obtain ⟨hA, hb⟩ : SlOf (w0.alloc (.cells #[.int .i64 1, .int .i64 2, .int .i64 5, .int .i64 8, .int .i64 10, .int .i64 25, .int .i64 40, .int .i64 3, .int .i64 7, .int .i64 12, .int .i64 4611686018427387904, .int .i64 7450580596923828125, .int .i64 9223372036854775807, .int .i64 1000000000000000000, .int .i64 0, .int .i64 (-1)] 2)) enZ 1 (some ⟨w0.heap.size, 0, none⟩) 16 densL ∧ Below w0.heap.size w0 (w0.alloc (.cells #[.int .i64 1, .int .i64 2, .int .i64 5, .int .i64 8, .int .i64 10, .int .i64 25, .int .i64 40, .int .i64 3, .int .i64 7, .int .i64 12, .int .i64 4611686018427387904, .int .i64 7450580596923828125, .int .i64 9223372036854775807, .int .i64 1000000000000000000, .int .i64 0, .int .i64 (-1)] 2)) := ⟨by rw [← HSZ.out]; exact SlOf.lit w0 enZ 1 (fun _ => rfl) densL _ _ 16 rfl rfl (by decide), (Below.refl _ _).alloc (Nat.le_refl _) _⟩
  replace HSZ := Lib.hid (show (w0.alloc (.cells #[.int .i64 1, .int .i64 2, .int .i64 5, .int .i64 8, .int .i64 10, .int .i64 25, .int .i64 40, .int .i64 3, .int .i64 7, .int .i64 12, .int .i64 4611686018427387904, .int .i64 7450580596923828125, .int .i64 9223372036854775807, .int .i64 1000000000000000000, .int .i64 0, .int .i64 (-1)] 2)).heap.size = w0.heap.size + 1 by rw [← HSZ.out]; simp)
  replace HB := Lib.hid (bstep HB.out hb (Nat.le_refl _))
  replace HG := Lib.hid (LaidT.keep HG.out hb)
  replace HP := Lib.hid (PowTab.keep HP.out hb)
  have HD := Lib.hid hA
  clear hb hA
  generalize w0.alloc (.cells #[.int .i64 1, .int .i64 2, .int .i64 5, .int .i64 8, .int .i64 10, .int .i64 25, .int .i64 40, .int .i64 3, .int .i64 7, .int .i64 12, .int .i64 4611686018427387904, .int .i64 7450580596923828125, .int .i64 9223372036854775807, .int .i64 1000000000000000000, .int .i64 0, .int .i64 (-1)] 2) = w1 at *
  obtain ⟨hA, hb⟩ : SlOf (w1.alloc (.cells #[.int .i64 0, .int .i64 1, .int .i64 (-1), .int .i64 3, .int .i64 (-3), .int .i64 7, .int .i64 9223372036854775807, .int .i64 (-9223372036854775808), .int .i64 4611686018427387905, .int .i64 999999999999999999] 2)) enZ 1 (some ⟨w0.heap.size + 1, 0, none⟩) 10 numsL ∧ Below w1.heap.size w1 (w1.alloc (.cells #[.int .i64 0, .int .i64 1, .int .i64 (-1), .int .i64 3, .int .i64 (-3), .int .i64 7, .int .i64 9223372036854775807, .int .i64 (-9223372036854775808), .int .i64 4611686018427387905, .int .i64 999999999999999999] 2)) := ⟨by rw [← HSZ.out]; exact SlOf.lit w1 enZ 1 (fun _ => rfl) numsL _ _ 10 rfl rfl (by decide), (Below.refl _ _).alloc (Nat.le_refl _) _⟩
  replace HSZ := Lib.hid (show (w1.alloc (.cells #[.int .i64 0, .int .i64 1, .int .i64 (-1), .int .i64 3, .int .i64 (-3), .int .i64 7, .int .i64 9223372036854775807, .int .i64 (-9223372036854775808), .int .i64 4611686018427387905, .int .i64 999999999999999999] 2)).heap.size = w0.heap.size + 1 + 1 by rw [← HSZ.out]; simp)
  replace HB := Lib.hid (bstep HB.out hb (Nat.le_refl _))
  replace HG := Lib.hid (LaidT.keep HG.out hb)
  replace HP := Lib.hid (PowTab.keep HP.out hb)
  replace HD := Lib.hid (SlOf.keep HD.out hb (Nat.le_refl _))
  have HN := Lib.hid hA
  clear hb hA
  generalize w1.alloc (.cells #[.int .i64 0, .int .i64 1, .int .i64 (-1), .int .i64 3, .int .i64 (-3), .int .i64 7, .int .i64 9223372036854775807, .int .i64 (-9223372036854775808), .int .i64 4611686018427387905, .int .i64 999999999999999999] 2) = w2 at *
  go_loopw [3] (fun x wr => ∃ i : Nat, i ≤ 16 ∧ x = .int .i64 (i : Nat) ∧ Below w2.heap.size w2 wr) (fun x _ => 16 - (intOf x).toNat)
  case atStart => exact ⟨0, by omega, rfl, Below.refl _ _⟩
  case round =>
    obtain ⟨i, hi, rfl, hbi⟩ := hrel
    by_cases hltI : (i : Int) < 16
    · have hlt : i < 16 := by omega
      go_wp2_with fail
      go_loopw [4] (fun x wr => ∃ k : Nat, k ≤ 10 ∧ x = .int .i64 (k : Nat) ∧ Below w2.heap.size w2 wr) (fun x _ => 10 - (intOf x).toNat)
      case atStart => exact ⟨0, by omega, rfl, hbi⟩
      case round =>
        clear hbi
        obtain ⟨k, hk, rfl, hbk⟩ := hrel
        obtain ⟨v0, hv0⟩ : ∃ x, x = wr := ⟨_, rfl⟩
        subst hv0
        by_cases hlkI : (k : Int) < 10
        · have hlk : k < 10 := by omega
          obtain ⟨bl, ol, e, hba, hc0⟩ := SlZ.at (HN.out.keep hbk (Nat.le_refl _)) (k := k) (by simpa [numsL] using hlk)
          cases e
          obtain ⟨bl, ol, e, hbb, hd0⟩ := SlZ.at (HD.out.keep hbk (Nat.le_refl _)) (k := i) (by simpa [densL] using hlt)
          cases e
          rw [Nat.zero_add] at hc0 hd0
          rw [show numsL[k]'(by simpa [numsL] using hlk) = numK k by simp [numK, List.getD, numsL, hlk]] at hc0
          rw [show densL[i]'(by simpa [densL] using hlt) = denK i by simp [denK, List.getD, densL, hlt]] at hd0
          have n1 := num_in k
          have d1 := den_in i
          have KB := Lib.hid hbk
          have KG := Lib.hid (LaidT.keep HG.out hbk)
          have KP := Lib.hid (PowTab.keep HP.out hbk)
          clear hbk
          generalize numK k = n at *
          generalize denK i = d at *
          have EN := Lib.hid (endOK n d n1 d1)
          go_wp2_with fail
          go_cut [5] (fun v w' => ∃ g, v = .pointer (some ⟨g, 0, none⟩) ∧ Blk w' g #[.int .i64 n, .int .i64 d] ∧ Below v0.heap.size v0 w')
          case first =>
            go_region_with (refine (kfrac_any n d _).mono ?_; rintro e w' ⟨rfl, hb'⟩; have hsz' := hb'.size; try (have n0 := cell_keep' (a := ⟨v0.heap.size, 0, none⟩) (v := .int .i64 0) (by first | (go_simp; done) | fail) hb'; have n1 := cell_keep' (a := ⟨v0.heap.size, 1, none⟩) (v := .int .i64 0) (by first | (go_simp; done) | fail) hb'; have m0 := frozen_keep (a := ⟨v0.heap.size, 0, none⟩) hb' (by simp); have m1 := frozen_keep (a := ⟨v0.heap.size, 1, none⟩) hb' (by simp)))
            all_goals go_wp2_with fail
            all_goals go_meet
            all_goals
              first
                | exact ⟨_, rfl, floatA hb'⟩
                | exact ⟨_, rfl, floatB hb'⟩
          obtain ⟨g5, rfl, tn, hb⟩ := hcut
          replace hc0 := cell_keep' hc0 hb
          replace hd0 := cell_keep' hd0 hb
          replace hba := Nat.lt_of_lt_of_le hba hb.size
          replace hbb := Nat.lt_of_lt_of_le hbb hb.size
          replace KB := Lib.hid (bstep KB.out hb (Nat.le_refl _))
          replace KG := Lib.hid (LaidT.keep KG.out hb)
          replace KP := Lib.hid (PowTab.keep KP.out hb)
          have T5 := Lib.hid tn
          clear hb tn
          obtain ⟨u2, hu2⟩ : ∃ x, x = wc := ⟨_, rfl⟩
          subst hu2
          go_wp2_with fail
          cases hF : newF n d with
          | none =>
            obtain ⟨m, cn⟩ := knew_none n1 d1 hF
            clear hF
            go_cut [6, 7] (fun v e w' => ∃ g, v = .pointer (some ⟨g, 0, none⟩) ∧ e = .iface 36 (.int .i64 m) ∧ Blk w' g #[.int .i64 0, .int .i64 0] ∧ Below u2.heap.size u2 w')
            case first =>
              go_region_with (refine (cn _).mono ?_; rintro e w' ⟨rfl, hb'⟩; have hsz' := hb'.size; try (have n0 := cell_keep' (a := ⟨u2.heap.size, 0, none⟩) (v := .int .i64 0) (by first | (go_simp; done) | fail) hb'; have n1 := cell_keep' (a := ⟨u2.heap.size, 1, none⟩) (v := .int .i64 0) (by first | (go_simp; done) | fail) hb'; have m0 := frozen_keep (a := ⟨u2.heap.size, 0, none⟩) hb' (by simp); have m1 := frozen_keep (a := ⟨u2.heap.size, 1, none⟩) hb' (by simp)))
              all_goals go_wp2_with fail
              all_goals go_meet
              all_goals
                first
                  | exact ⟨_, rfl, rfl, floatA hb'⟩
                  | exact ⟨_, rfl, rfl, floatB hb'⟩
            obtain ⟨g6, rfl, rfl, tn, hb⟩ := hcut
            replace KB := Lib.hid (bstep KB.out hb (Nat.le_refl _))
            replace KG := Lib.hid (LaidT.keep KG.out hb)
            replace KP := Lib.hid (PowTab.keep KP.out hb)
            replace T5 := Lib.hid ((T5.out).keep hb (Nat.le_refl _))
            have T6 := Lib.hid tn
            clear hb tn cn hc0 hd0
            obtain ⟨f0, f1, f2, f3⟩ := T5.out.two
            obtain ⟨u3, hu3⟩ : ∃ x, x = wc := ⟨_, rfl⟩
            subst hu3
            go_wp2_with fail
            with_reducible refine ((EN.out.at KG.out KP.out).a1).mono ?_
            rintro e u5 ⟨rfl, hb⟩
            clear f0 f1 f2 f3
            replace KB := Lib.hid (bstep KB.out hb (Nat.le_refl _))
            replace KG := Lib.hid (LaidT.keep KG.out hb)
            replace KP := Lib.hid (PowTab.keep KP.out hb)
            replace T5 := Lib.hid ((T5.out).keep hb (Nat.le_refl _))
            replace T6 := Lib.hid ((T6.out).keep hb (Nat.le_refl _))
            clear hb
            obtain ⟨f0, f1, f2, f3⟩ := T5.out.two
            go_wp2_with fail
            with_reducible refine ((EN.out.at KG.out KP.out).a2).mono ?_
            rintro e u6 ⟨rfl, hb⟩
            clear f0 f1 f2 f3
            replace KB := Lib.hid (bstep KB.out hb (Nat.le_refl _))
            replace KG := Lib.hid (LaidT.keep KG.out hb)
            replace KP := Lib.hid (PowTab.keep KP.out hb)
            replace T5 := Lib.hid ((T5.out).keep hb (Nat.le_refl _))
            replace T6 := Lib.hid ((T6.out).keep hb (Nat.le_refl _))
            clear hb
            obtain ⟨f0, f1, f2, f3⟩ := T5.out.two
            go_wp2_with fail
            with_reducible refine ((EN.out.at KG.out KP.out).a3).mono ?_
            rintro e u7 ⟨rfl, hb⟩
            clear f0 f1 f2 f3
            replace KB := Lib.hid (bstep KB.out hb (Nat.le_refl _))
            replace KG := Lib.hid (LaidT.keep KG.out hb)
            replace KP := Lib.hid (PowTab.keep KP.out hb)
            replace T5 := Lib.hid ((T5.out).keep hb (Nat.le_refl _))
            replace T6 := Lib.hid ((T6.out).keep hb (Nat.le_refl _))
            clear hb
            obtain ⟨f0, f1, f2, f3⟩ := T5.out.two
            go_wp2_with fail
            go_roundw
            case rel => exact ⟨k + 1, by omega, by first | rfl | go_num, KB.out⟩
            case measure => (simp [intOf] <;> omega)
          | some q =>
            obtain ⟨x, y⟩ := q
            have cn := knew_some n1 d1 hF
            obtain ⟨x1, y1⟩ := newF_in hF
            have EB := Lib.hid (endOK x y x1 y1)
            have CH := Lib.hid (fun w hg => ratholds_any x y n d x1 y1 n1 d1 w hg)
            clear hF x1 y1 n1 d1
            go_cut [6, 7] (fun v e w' => ∃ g, v = .pointer (some ⟨g, 0, none⟩) ∧ e = .nilIface ∧ Blk w' g #[.int .i64 x, .int .i64 y] ∧ Below u2.heap.size u2 w')
            case first =>
              go_region_with (refine (cn _).mono ?_; rintro e w' ⟨rfl, hb'⟩; have hsz' := hb'.size; try (have n0 := cell_keep' (a := ⟨u2.heap.size, 0, none⟩) (v := .int .i64 0) (by first | (go_simp; done) | fail) hb'; have n1 := cell_keep' (a := ⟨u2.heap.size, 1, none⟩) (v := .int .i64 0) (by first | (go_simp; done) | fail) hb'; have m0 := frozen_keep (a := ⟨u2.heap.size, 0, none⟩) hb' (by simp); have m1 := frozen_keep (a := ⟨u2.heap.size, 1, none⟩) hb' (by simp)))
              all_goals go_wp2_with fail
              all_goals go_meet
              all_goals
                first
                  | exact ⟨_, rfl, rfl, floatA hb'⟩
                  | exact ⟨_, rfl, rfl, floatB hb'⟩
            obtain ⟨g6, rfl, rfl, tn, hb⟩ := hcut
            replace KB := Lib.hid (bstep KB.out hb (Nat.le_refl _))
            replace KG := Lib.hid (LaidT.keep KG.out hb)
            replace KP := Lib.hid (PowTab.keep KP.out hb)
            replace T5 := Lib.hid ((T5.out).keep hb (Nat.le_refl _))
            have T6 := Lib.hid tn
            clear hb tn cn hc0 hd0
            obtain ⟨f0, f1, f2, f3⟩ := T5.out.two
            obtain ⟨u3, hu3⟩ : ∃ x, x = wc := ⟨_, rfl⟩
            subst hu3
            go_wp2_with fail
            with_reducible refine ((EN.out.at KG.out KP.out).a1).mono ?_
            rintro e u5 ⟨rfl, hb⟩
            clear f0 f1 f2 f3
            replace KB := Lib.hid (bstep KB.out hb (Nat.le_refl _))
            replace KG := Lib.hid (LaidT.keep KG.out hb)
            replace KP := Lib.hid (PowTab.keep KP.out hb)
            replace T5 := Lib.hid ((T5.out).keep hb (Nat.le_refl _))
            replace T6 := Lib.hid ((T6.out).keep hb (Nat.le_refl _))
            clear hb
            obtain ⟨f0, f1, f2, f3⟩ := T5.out.two
            obtain ⟨e0, e1, e2, e3⟩ := T6.out.two
            go_wp2_with fail
            with_reducible refine ((EN.out.at KG.out KP.out).a2).mono ?_
            rintro e u6 ⟨rfl, hb⟩
            clear f0 f1 f2 f3 e0 e1 e2 e3
            replace KB := Lib.hid (bstep KB.out hb (Nat.le_refl _))
            replace KG := Lib.hid (LaidT.keep KG.out hb)
            replace KP := Lib.hid (PowTab.keep KP.out hb)
            replace T5 := Lib.hid ((T5.out).keep hb (Nat.le_refl _))
            replace T6 := Lib.hid ((T6.out).keep hb (Nat.le_refl _))
            clear hb
            obtain ⟨f0, f1, f2, f3⟩ := T5.out.two
            obtain ⟨e0, e1, e2, e3⟩ := T6.out.two
            go_wp2_with fail
            with_reducible refine ((EN.out.at KG.out KP.out).a3).mono ?_
            rintro e u7 ⟨rfl, hb⟩
            clear f0 f1 f2 f3 e0 e1 e2 e3
            replace KB := Lib.hid (bstep KB.out hb (Nat.le_refl _))
            replace KG := Lib.hid (LaidT.keep KG.out hb)
            replace KP := Lib.hid (PowTab.keep KP.out hb)
            replace T5 := Lib.hid ((T5.out).keep hb (Nat.le_refl _))
            replace T6 := Lib.hid ((T6.out).keep hb (Nat.le_refl _))
            clear hb
            obtain ⟨f0, f1, f2, f3⟩ := T5.out.two
            obtain ⟨e0, e1, e2, e3⟩ := T6.out.two
            go_wp2_with fail
            with_reducible refine ((EB.out.at KG.out KP.out).a1).mono ?_
            rintro e u8 ⟨rfl, hb⟩
            clear f0 f1 f2 f3 e0 e1 e2 e3
            replace KB := Lib.hid (bstep KB.out hb (Nat.le_refl _))
            replace KG := Lib.hid (LaidT.keep KG.out hb)
            replace KP := Lib.hid (PowTab.keep KP.out hb)
            replace T5 := Lib.hid ((T5.out).keep hb (Nat.le_refl _))
            replace T6 := Lib.hid ((T6.out).keep hb (Nat.le_refl _))
            clear hb
            obtain ⟨f0, f1, f2, f3⟩ := T5.out.two
            obtain ⟨e0, e1, e2, e3⟩ := T6.out.two
            go_wp2_with fail
            with_reducible refine ((EB.out.at KG.out KP.out).a2).mono ?_
            rintro e u9 ⟨rfl, hb⟩
            clear f0 f1 f2 f3 e0 e1 e2 e3
            replace KB := Lib.hid (bstep KB.out hb (Nat.le_refl _))
            replace KG := Lib.hid (LaidT.keep KG.out hb)
            replace KP := Lib.hid (PowTab.keep KP.out hb)
            replace T5 := Lib.hid ((T5.out).keep hb (Nat.le_refl _))
            replace T6 := Lib.hid ((T6.out).keep hb (Nat.le_refl _))
            clear hb
            obtain ⟨f0, f1, f2, f3⟩ := T5.out.two
            obtain ⟨e0, e1, e2, e3⟩ := T6.out.two
            go_wp2_with fail
            with_reducible refine ((EB.out.at KG.out KP.out).a3).mono ?_
            rintro e u10 ⟨rfl, hb⟩
            clear f0 f1 f2 f3 e0 e1 e2 e3
            replace KB := Lib.hid (bstep KB.out hb (Nat.le_refl _))
            replace KG := Lib.hid (LaidT.keep KG.out hb)
            replace KP := Lib.hid (PowTab.keep KP.out hb)
            replace T5 := Lib.hid ((T5.out).keep hb (Nat.le_refl _))
            replace T6 := Lib.hid ((T6.out).keep hb (Nat.le_refl _))
            clear hb
            obtain ⟨f0, f1, f2, f3⟩ := T5.out.two
            obtain ⟨e0, e1, e2, e3⟩ := T6.out.two
            go_wp2_with fail
            with_reducible refine ((CH.out _ KG.out)).mono ?_
            rintro e u11 ⟨rfl, hb⟩
            clear f0 f1 f2 f3 e0 e1 e2 e3
            replace KB := Lib.hid (bstep KB.out hb (Nat.le_refl _))
            replace KG := Lib.hid (LaidT.keep KG.out hb)
            replace KP := Lib.hid (PowTab.keep KP.out hb)
            replace T5 := Lib.hid ((T5.out).keep hb (Nat.le_refl _))
            replace T6 := Lib.hid ((T6.out).keep hb (Nat.le_refl _))
            clear hb
            obtain ⟨f0, f1, f2, f3⟩ := T5.out.two
            obtain ⟨e0, e1, e2, e3⟩ := T6.out.two
            go_wp2_with fail
            go_roundw
            case rel => exact ⟨k + 1, by omega, by first | rfl | go_num, KB.out⟩
            case measure => (simp [intOf] <;> omega)
        · have hk10 : k = 10 := by omega
          subst hk10
          go_wp2_with fail
          go_roundw
          case rel => exact ⟨i + 1, by omega, by first | rfl | go_num, hbk⟩
          case measure => (simp [intOf] <;> omega)
    · have hb := hbi
      replace HG := Lib.hid (LaidT.keep HG.out hb)
      replace HP := Lib.hid (PowTab.keep HP.out hb)
      replace HB := Lib.hid (bstep HB.out hb (Nat.le_refl _))
      clear hbi HD HN hb
      have hi16 : i = 16 := by omega
      subst hi16
      obtain ⟨w11, hw⟩ : ∃ x, x = wr := ⟨_, rfl⟩
      subst hw
      go_wp2_with fail
      with_reducible refine (kfrac_any _ _ _).mono ?_
      rintro e w12 ⟨rfl, hb⟩
      replace HB := Lib.hid (bstep HB.out hb (Nat.le_refl _))
      replace HG := Lib.hid (LaidT.keep HG.out hb)
      replace HP := Lib.hid (PowTab.keep HP.out hb)
      clear hb
      go_wp2_with fail
      with_reducible refine (kprint0 _ HP.out).mono ?_
      rintro e w13 ⟨rfl, hb⟩
      replace HB := Lib.hid (bstep HB.out hb (Nat.le_refl _))
      replace HG := Lib.hid (LaidT.keep HG.out hb)
      replace HP := Lib.hid (PowTab.keep HP.out hb)
      clear hb
      go_wp2_with fail
      with_reducible refine (kfrac_any _ _ _).mono ?_
      rintro e w14 ⟨rfl, hb⟩
      replace HB := Lib.hid (bstep HB.out hb (Nat.le_refl _))
      replace HG := Lib.hid (LaidT.keep HG.out hb)
      replace HP := Lib.hid (PowTab.keep HP.out hb)
      clear hb
      go_wp2_with fail
      with_reducible refine (kprint1 _ HP.out).mono ?_
      rintro e w15 ⟨rfl, hb⟩
      replace HB := Lib.hid (bstep HB.out hb (Nat.le_refl _))
      replace HG := Lib.hid (LaidT.keep HG.out hb)
      replace HP := Lib.hid (PowTab.keep HP.out hb)
      clear hb
      go_wp2_with fail
      with_reducible refine (kfrac_any _ _ _).mono ?_
      rintro e w16 ⟨rfl, hb⟩
      replace HB := Lib.hid (bstep HB.out hb (Nat.le_refl _))
      replace HG := Lib.hid (LaidT.keep HG.out hb)
      replace HP := Lib.hid (PowTab.keep HP.out hb)
      clear hb
      go_wp2_with fail
      with_reducible refine (kprint2 _ HP.out).mono ?_
      rintro e w17 ⟨rfl, hb⟩
      replace HB := Lib.hid (bstep HB.out hb (Nat.le_refl _))
      replace HG := Lib.hid (LaidT.keep HG.out hb)
      replace HP := Lib.hid (PowTab.keep HP.out hb)
      clear hb
      go_wp2_with fail
      with_reducible refine (kfrac_any _ _ _).mono ?_
      rintro e w18 ⟨rfl, hb⟩
      replace HB := Lib.hid (bstep HB.out hb (Nat.le_refl _))
      replace HG := Lib.hid (LaidT.keep HG.out hb)
      replace HP := Lib.hid (PowTab.keep HP.out hb)
      clear hb
      go_wp2_with fail
      with_reducible refine (kprint3 _ HP.out).mono ?_
      rintro e w19 ⟨rfl, hb⟩
      replace HB := Lib.hid (bstep HB.out hb (Nat.le_refl _))
      replace HG := Lib.hid (LaidT.keep HG.out hb)
      replace HP := Lib.hid (PowTab.keep HP.out hb)
      clear hb
      go_wp2_with fail
      with_reducible refine (kplain 1 (by decide) (by decide) _ HG.out).mono ?_
      rintro e w99 ⟨rfl, hb⟩
      replace HB := Lib.hid (bstep HB.out hb (Nat.le_refl _))
      replace HG := Lib.hid (LaidT.keep HG.out hb)
      replace HP := Lib.hid (PowTab.keep HP.out hb)
      clear hb
      go_wp2_with fail
      go_ret
      exact ⟨rfl, HB.out⟩
end Go.Proofs.YtajebceanonalaaGreatDoor
