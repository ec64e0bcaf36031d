/-
  RatKnown: knownSums.
-/
import Derived.Test.YtajebceanonalaaGreatDoorKnoB
import Derived.Test.YtajebceanonalaaGreatDoorRatV
import Derived.Test.YtajebceanonalaaGreatDoorRatW
import Derived.Test.YtajebceanonalaaGreatDoorKnoC

namespace Go.Proofs.YtajebceanonalaaGreatDoor
set_option linter.unusedVariables false
open Go.RowKit

def sumsL : List Int := [0, 1, -1, 2, -2, 3, 6, -6, 10, 2147483648, 4611686018427387903, 4611686018427387904, 9223372036854775806, 9223372036854775807, -9223372036854775808, -9223372036854775807, -4611686018427387904, 3037000500, 5000000000]
def sumK (k : Nat) : Int := sumsL.getD k 0
theorem sum_in (k : Nat) : In64 (sumK k) := all_in (by decide +kernel) k
def goodB (j : Nat) : Bool := ((j / 19 + j % 19) % 2 == 0) && (newF (sumK (j / 19)) (sumK (j % 19))).isSome
def cntK (c : Nat) : Nat := ((List.range c).filter goodB).length
theorem cntK_snoc (c : Nat) : cntK (c + 1) = cntK c + if goodB c = true then 1 else 0 := by
  unfold cntK
  rw [List.range_succ, List.filter_append, List.length_append]
  congr 1
  by_cases h : goodB c = true
  · rw [if_pos h]; simp [h]
  · rw [if_neg h]; simp [h]
theorem cntK_all : 50 < cntK 361 := by decide +kernel
theorem cntK_le (c : Nat) : cntK c ≤ c := by
  unfold cntK
  have := List.length_filter_le goodB (List.range c)
  rwa [List.length_range] at this
theorem good_at (i k : Nat) (hk : k < 19) : goodB (19 * i + k) = (((i + k) % 2 == 0) && (newF (sumK i) (sumK k)).isSome) := by
  unfold goodB
  rw [show (19 * i + k) / 19 = i by omega, show (19 * i + k) % 19 = k by omega]
theorem rats_ty : SlTy Tryz.prog 69 23 2 16 := SlTy.mk' (.agg #[.int .i64 0, .int .i64 0]) Tryz.underlying69 (by kernel_rfl) rfl (by decide) (by decide)
def RatsIn (xs : List (Int × Int)) : Prop := ∀ x ∈ xs, In64 x.1 ∧ In64 x.2
def RelR (w : World) (base : Nat) (v : Value) (c : Nat) : Prop := ∃ xs : List (Int × Int), Owns w base 23 2 enR v xs ∧ xs.length = cntK c ∧ RatsIn xs
theorem RelR.keep {w w' : World} {base : Nat} {v : Value} {c : Nat} (h : RelR w base v c) (hb : Below w.heap.size w w') : RelR w' base v c := by
  obtain ⟨xs, h1, h2, h3⟩ := h
  exact ⟨xs, Owns.keep h1 hb (Nat.le_refl _), h2, h3⟩
theorem RelR.skip {w : World} {base : Nat} {v : Value} {c : Nat} (h : RelR w base v c) (hg : goodB c = false) : RelR w base v (c + 1) := by
  obtain ⟨xs, h1, h2, h3⟩ := h
  exact ⟨xs, h1, by rw [cntK_snoc, hg, h2]; rfl, h3⟩

set_option maxRecDepth 100000 in
set_option maxHeartbeats 8000000 in
theorem knownSums_any (w : World) (hg : LaidT w) :
    Calls Tryz.prog 12 #[] w fun e w' => e = .returned (.bool true) ∧ Below w.heap.size w w' := by
  have HG := Lib.hid hg
  have HB := Lib.hid (Below.refl w.heap.size w)
  clear hg
  obtain ⟨w0, hw0⟩ : ∃ x, x = w := ⟨_, rfl⟩
  subst hw0
  go_enter Tryz.func12, Tryz.ntmps12
  go_wp2_with fail
  have HSZ := Lib.hid (rfl : w0.heap.size = w0.heap.size)
  obtain ⟨hA, hb⟩ : SlOf (w0.alloc (.cells #[.int .i64 0, .int .i64 1, .int .i64 (-1), .int .i64 2, .int .i64 (-2), .int .i64 3, .int .i64 6, .int .i64 (-6), .int .i64 10, .int .i64 2147483648, .int .i64 4611686018427387903, .int .i64 4611686018427387904, .int .i64 9223372036854775806, .int .i64 9223372036854775807, .int .i64 (-9223372036854775808), .int .i64 (-9223372036854775807), .int .i64 (-4611686018427387904), .int .i64 3037000500, .int .i64 5000000000] 2)) enZ 1 (some ⟨w0.heap.size, 0, none⟩) 19 sumsL ∧ Below w0.heap.size w0 (w0.alloc (.cells #[.int .i64 0, .int .i64 1, .int .i64 (-1), .int .i64 2, .int .i64 (-2), .int .i64 3, .int .i64 6, .int .i64 (-6), .int .i64 10, .int .i64 2147483648, .int .i64 4611686018427387903, .int .i64 4611686018427387904, .int .i64 9223372036854775806, .int .i64 9223372036854775807, .int .i64 (-9223372036854775808), .int .i64 (-9223372036854775807), .int .i64 (-4611686018427387904), .int .i64 3037000500, .int .i64 5000000000] 2)) := ⟨by rw [← HSZ.out]; exact SlOf.lit w0 enZ 1 (fun _ => rfl) sumsL _ _ 19 rfl rfl (by decide), (Below.refl _ _).alloc (Nat.le_refl _) _⟩
  replace HSZ := Lib.hid (show (w0.alloc (.cells #[.int .i64 0, .int .i64 1, .int .i64 (-1), .int .i64 2, .int .i64 (-2), .int .i64 3, .int .i64 6, .int .i64 (-6), .int .i64 10, .int .i64 2147483648, .int .i64 4611686018427387903, .int .i64 4611686018427387904, .int .i64 9223372036854775806, .int .i64 9223372036854775807, .int .i64 (-9223372036854775808), .int .i64 (-9223372036854775807), .int .i64 (-4611686018427387904), .int .i64 3037000500, .int .i64 5000000000] 2)).heap.size = w0.heap.size + 1 by rw [← HSZ.out]; simp)
  replace HB := Lib.hid (bstep HB.out hb (Nat.le_refl _))
  replace HG := Lib.hid (LaidT.keep HG.out hb)
  have HS := Lib.hid hA
  clear hb hA
  generalize w0.alloc (.cells #[.int .i64 0, .int .i64 1, .int .i64 (-1), .int .i64 2, .int .i64 (-2), .int .i64 3, .int .i64 6, .int .i64 (-6), .int .i64 10, .int .i64 2147483648, .int .i64 4611686018427387903, .int .i64 4611686018427387904, .int .i64 9223372036854775806, .int .i64 9223372036854775807, .int .i64 (-9223372036854775808), .int .i64 (-9223372036854775807), .int .i64 (-4611686018427387904), .int .i64 3037000500, .int .i64 5000000000] 2) = w1 at *
  go_loopw [2, 3] (fun v x wr => ∃ i : Nat, i ≤ 19 ∧ x = .int .i64 (i : Nat) ∧ Below w1.heap.size w1 wr ∧ RelR wr w1.heap.size v (19 * i)) (fun _ x _ => 19 - (intOf x).toNat)
  case atStart => exact ⟨0, by omega, rfl, Below.refl _ _, [], Owns.nil _ _ _ _ _, rfl, fun _ h => by cases h⟩
  case round =>
    obtain ⟨i, hi, rfl, hbi, hoi⟩ := hrel
    by_cases hltI : (i : Int) < 19
    · have hlt : i < 19 := by omega
      go_wp2_with fail
      go_loopw [2, 4] (fun v x wr => ∃ k : Nat, k ≤ 19 ∧ x = .int .i64 (k : Nat) ∧ Below w1.heap.size w1 wr ∧ RelR wr w1.heap.size v (19 * i + k)) (fun _ x _ => 19 - (intOf x).toNat)
      case atStart => exact ⟨0, by omega, rfl, hbi, hoi⟩
      case round =>
        clear hbi hoi
        obtain ⟨k, hk, rfl, hbk, hok⟩ := hrel
        obtain ⟨v0, hv0⟩ : ∃ x, x = wr := ⟨_, rfl⟩
        subst hv0
        by_cases hlkI : (k : Int) < 19
        · have hlk : k < 19 := by omega
          obtain ⟨bl, ol, e, hba, hc0⟩ := SlZ.at (HS.out.keep hbk (Nat.le_refl _)) (k := i) (by simpa [sumsL] using hlt)
          cases e
          obtain ⟨bl, ol, e, hbb, hd0⟩ := SlZ.at (HS.out.keep hbk (Nat.le_refl _)) (k := k) (by simpa [sumsL] using hlk)
          cases e
          rw [Nat.zero_add] at hc0 hd0
          rw [show sumsL[i]'(by simpa [sumsL] using hlt) = sumK i by simp [sumK, List.getD, sumsL, hlt]] at hc0
          rw [show sumsL[k]'(by simpa [sumsL] using hlk) = sumK k by simp [sumK, List.getD, sumsL, hlk]] at hd0
          have n1 := sum_in i
          have d1 := sum_in k
          have GA := Lib.hid (good_at i k hlk)
          have KB := Lib.hid hbk
          have KG := Lib.hid (LaidT.keep HG.out hbk)
          have KR := Lib.hid hok
          clear hbk hok
          generalize sumK i = n at *
          generalize sumK k = d at *
          have l0 := fun x : Later v0 => Later.cell hc0 x
          have l1 := fun x : Later v0 => Later.cell hd0 x
          have lf := fun (n d : Int) (x : Later v0) => kfrac_any n d x.w
          have lN := fun x : Later v0 => ratnews_any n d n1 d1 x.w (LaidT.keep KG.out x.below)
          have lH := fun x : Later v0 => ratholds_any n d d n n1 d1 d1 n1 x.w (LaidT.keep KG.out x.below)
          have lS := fun x : Later v0 => ratsums_any n d d n n1 d1 d1 n1 x.w (LaidT.keep KG.out x.below)
          go_wp2_with fail
          refine wp_region_later0 (by kernel_rfl) (by kernel_rfl) ?_
          repeat (go_big_quiet_step ((first | (go_at_call 38; with_reducible exact Later.made (lf _ _ _)) | (go_at_call 36; with_reducible exact Later.made (lN _)) | (go_at_call 37; with_reducible exact Later.made (lH _)) | (go_at_call 39; with_reducible exact Later.made (lS _)))))
          refine wpQuiet_nil ?_
          rintro _ ⟨x, rfl⟩
          have hb := x.below
          replace hc0 := Later.cell hc0 x
          replace hd0 := Later.cell hd0 x
          replace hba := Nat.lt_of_lt_of_le hba hb.size
          replace hbb := Nat.lt_of_lt_of_le hbb hb.size
          replace KB := Lib.hid (bstep KB.out hb (Nat.le_refl _))
          replace KG := Lib.hid (LaidT.keep KG.out hb)
          replace KR := Lib.hid (RelR.keep KR.out hb)
          clear hb l0 l1 lf lN lH lS
          generalize x.w = u2 at *
          go_wp2_with fail
          cases hF : newF n d with
          | none =>
            obtain ⟨m, cn⟩ := knew_none n1 d1 hF
            have HGB := Lib.hid (show goodB (19 * i + k) = false by rw [GA.out, hF]; simp)
            clear hF
            go_cut [5, 6] (fun v e w' => ∃ g, v = .pointer (some ⟨g, 0, none⟩) ∧ e = .iface 36 (.int .i64 m) ∧ Blk w' g #[.int .i64 0, .int .i64 0] ∧ Below u2.heap.size u2 w')
            case first =>
              go_region_with (refine (cn _).mono ?_; rintro e w' ⟨rfl, hb'⟩; have hsz' := hb'.size; try (have n0 := cell_keep' (a := ⟨u2.heap.size, 0, none⟩) (v := .int .i64 0) (by first | (go_simp; done) | fail) hb'; have n1 := cell_keep' (a := ⟨u2.heap.size, 1, none⟩) (v := .int .i64 0) (by first | (go_simp; done) | fail) hb'; have m0 := frozen_keep (a := ⟨u2.heap.size, 0, none⟩) hb' (by simp); have m1 := frozen_keep (a := ⟨u2.heap.size, 1, none⟩) hb' (by simp)))
              all_goals go_wp2_with fail
              all_goals go_meet
              all_goals
                first
                  | exact ⟨_, rfl, rfl, floatA hb'⟩
                  | exact ⟨_, rfl, rfl, floatB hb'⟩
            obtain ⟨g6, rfl, rfl, tn, hb⟩ := hcut
            replace KB := Lib.hid (bstep KB.out hb (Nat.le_refl _))
            replace KG := Lib.hid (LaidT.keep KG.out hb)
            replace KR := Lib.hid (RelR.keep KR.out hb)
            have T6 := Lib.hid tn
            clear hb tn cn hc0 hd0
            obtain ⟨u3, hu3⟩ : ∃ x, x = wc := ⟨_, rfl⟩
            subst hu3
            go_wp2_with fail
            go_roundw
            case rel => exact ⟨k + 1, by omega, by first | rfl | go_num, KB.out, RelR.skip KR.out HGB.out⟩
            case measure => (simp [intOf] <;> omega)
          | some q =>
            obtain ⟨x, y⟩ := q
            have cn := knew_some n1 d1 hF
            have HXY := Lib.hid (newF_in hF)
            have HSM := Lib.hid hF
            clear hF n1 d1
            go_cut [5, 6] (fun v e w' => ∃ g, v = .pointer (some ⟨g, 0, none⟩) ∧ e = .nilIface ∧ Blk w' g #[.int .i64 x, .int .i64 y] ∧ Below u2.heap.size u2 w')
            case first =>
              go_region_with (refine (cn _).mono ?_; rintro e w' ⟨rfl, hb'⟩; have hsz' := hb'.size; try (have n0 := cell_keep' (a := ⟨u2.heap.size, 0, none⟩) (v := .int .i64 0) (by first | (go_simp; done) | fail) hb'; have n1 := cell_keep' (a := ⟨u2.heap.size, 1, none⟩) (v := .int .i64 0) (by first | (go_simp; done) | fail) hb'; have m0 := frozen_keep (a := ⟨u2.heap.size, 0, none⟩) hb' (by simp); have m1 := frozen_keep (a := ⟨u2.heap.size, 1, none⟩) hb' (by simp)))
              all_goals go_wp2_with fail
              all_goals go_meet
              all_goals
                first
                  | exact ⟨_, rfl, rfl, floatA hb'⟩
                  | exact ⟨_, rfl, rfl, floatB hb'⟩
            obtain ⟨g6, rfl, rfl, tn, hb⟩ := hcut
            replace KB := Lib.hid (bstep KB.out hb (Nat.le_refl _))
            replace KG := Lib.hid (LaidT.keep KG.out hb)
            replace KR := Lib.hid (RelR.keep KR.out hb)
            have T6 := Lib.hid tn
            clear hb tn cn hc0 hd0
            obtain ⟨u3, hu3⟩ : ∃ x, x = wc := ⟨_, rfl⟩
            subst hu3
            obtain ⟨f0, f1, f2, f3⟩ := T6.out.two
            by_cases hpar : (i + k) % 2 = 0
            · have HGB := Lib.hid (show goodB (19 * i + k) = true by rw [GA.out, HSM.out, hpar]; rfl)
              have ht1 : (((i : Int) + (k : Int)) % 2 == 0) = true := by rw [beq_iff_eq]; omega
              have ht2 : (((i : Int) + (k : Int)).tmod 2 == 0) = true := by rw [beq_iff_eq, show ((i : Int) + (k : Int)).tmod 2 = (((i + k) % 2 : Nat) : Int) from rfl]; omega
              clear hpar
              obtain ⟨xs, ho, hx1, hx2⟩ := KR.out
              have hcl := cntK_le (19 * i + k)
              have HX1 := Lib.hid hx1
              have HX2 := Lib.hid hx2
              have hxl : xs.length ≤ 361 := by omega
              clear hx1 hx2 hcl
              have HO := Lib.hid ho
              clear ho
              go_wp2_with (at_builtin; go_loud (refine wpList_append_elem rats_ty xs (x, y) HO.out KB.out (Nat.le_refl _) (by omega) ?_ (hone := by simp [enR, Value.oneCell'])))
              intro z' w3 hz3 hb3
              go_wp2_with fail
              go_roundw
              case rel => exact ⟨k + 1, by omega, by first | rfl | go_num, hb3, xs ++ [(x, y)], hz3, by rw [show 19 * i + (k + 1) = 19 * i + k + 1 from rfl, cntK_snoc, HGB.out, if_pos rfl, List.length_append, HX1.out]; rfl, fun q hq => (List.mem_append.1 hq).elim (HX2.out q) (fun h => by rw [List.mem_singleton.1 h]; exact HXY.out)⟩
              case measure => (simp [intOf] <;> omega)
            · have HGB := Lib.hid (show goodB (19 * i + k) = false by rw [GA.out, beq_eq_false_iff_ne.2 hpar]; rfl)
              have ht1 : (((i : Int) + (k : Int)) % 2 == 0) = false := by rw [beq_eq_false_iff_ne]; omega
              have ht2 : (((i : Int) + (k : Int)).tmod 2 == 0) = false := by rw [beq_eq_false_iff_ne, show ((i : Int) + (k : Int)).tmod 2 = (((i + k) % 2 : Nat) : Int) from rfl]; omega
              clear hpar
              go_wp2_with fail
              go_roundw
              case rel => exact ⟨k + 1, by omega, by first | rfl | go_num, KB.out, RelR.skip KR.out HGB.out⟩
              case measure => (simp [intOf] <;> omega)
        · have hk19 : k = 19 := by omega
          subst hk19
          go_wp2_with fail
          go_roundw
          case rel => exact ⟨i + 1, by omega, by first | rfl | go_num, hbk, hok⟩
          case measure => (simp [intOf] <;> omega)
    · have hi19 : i = 19 := by omega
      subst hi19
      obtain ⟨xs, ho, hx1, hx2⟩ := hoi
      have hgt : 50 < xs.length := by rw [hx1]; exact cntK_all
      have hle := cntK_le (19 * 19)
      have hxl : xs.length ≤ 361 := by omega
      obtain ⟨aL, cL, rfl, hsL⟩ := ho.shape
      have hb := hbi
      replace HG := Lib.hid (LaidT.keep HG.out hb)
      replace HB := Lib.hid (bstep HB.out hb (Nat.le_refl _))
      have HX := Lib.hid hx2
      have HSL := Lib.hid hsL
      clear hbi hb hx1 hx2 ho hle HS hsL
      obtain ⟨w11, hw⟩ : ∃ x, x = wr := ⟨_, rfl⟩
      subst hw
      obtain ⟨M, hM⟩ : ∃ M, M = xs.length := ⟨_, rfl⟩
      rw [← hM] at hgt hxl ⊢
      have HM := Lib.hid hM
      clear hM
      go_wp2_with fail
      go_loopw [7] (fun x wr => ∃ i : Nat, i ≤ M + 2 ∧ x = .int .i64 (i : Nat) ∧ Below w11.heap.size w11 wr) (fun x _ => M + 3 - (intOf x).toNat)
      case atStart => exact ⟨0, by omega, rfl, Below.refl _ _⟩
      case round =>
        obtain ⟨i, hi, rfl, hbi⟩ := hrel
        by_cases hltI : (i : Int) < M
        · have hlt : i < M := by omega
          go_wp2_with fail
          go_loopw [8] (fun x wr => ∃ k : Nat, k ≤ M + 1 ∧ x = .int .i64 (k : Nat) ∧ Below w11.heap.size w11 wr) (fun x _ => M + 2 - (intOf x).toNat)
          case atStart => exact ⟨0, by omega, rfl, hbi⟩
          case round =>
            clear hbi
            obtain ⟨k, hk, rfl, hbk⟩ := hrel
            obtain ⟨v0, hv0⟩ : ∃ x, x = wr := ⟨_, rfl⟩
            subst hv0
            by_cases hlkI : (k : Int) < M
            · have hlk : k < M := by omega
              have hlm : (i + k) % M < M := Nat.mod_lt _ (by omega)
              obtain ⟨bl, ol, e, hba, hc0, hc1⟩ := SlP.at (HSL.out.keep hbk (Nat.le_refl _)) (k := i) (by rw [← HM.out]; exact hlt)
              cases e
              obtain ⟨bl', ol', e, hbb, hd0, hd1⟩ := SlP.at (HSL.out.keep hbk (Nat.le_refl _)) (k := k) (by rw [← HM.out]; exact hlk)
              cases e
              obtain ⟨bl', ol', e, hbc, he0, he1⟩ := SlP.at (HSL.out.keep hbk (Nat.le_refl _)) (k := (i + k) % M) (by rw [← HM.out]; exact hlm)
              cases e
              obtain ⟨x1, y1⟩ := HX.out _ (List.getElem_mem (show i < xs.length by rw [← HM.out]; exact hlt))
              obtain ⟨x2, y2⟩ := HX.out _ (List.getElem_mem (show k < xs.length by rw [← HM.out]; exact hlk))
              obtain ⟨x3, y3⟩ := HX.out _ (List.getElem_mem (show (i + k) % M < xs.length by rw [← HM.out]; exact hlm))
              have KB := Lib.hid hbk
              have KG := Lib.hid (LaidT.keep HG.out hbk)
              clear hbk
              have EW : IntKind.i64.wrap ((i : Int) + (k : Int)) = (i : Int) + (k : Int) := by unfold IntKind.wrap; simp [IntKind.bits, IntKind.signed]; omega
              have htm : ((i : Int) + (k : Int)).tmod (M : Int) = (((i + k) % M : Nat) : Int) := rfl
              have hm0 : ¬ M = 0 := by omega
              have hm0' : ¬ (M : Int) = 0 := by omega
              generalize xs[i]'(by rw [← HM.out]; exact hlt) = p at *
              generalize xs[k]'(by rw [← HM.out]; exact hlk) = q at *
              generalize xs[(i + k) % M]'(by rw [← HM.out]; exact hlm) = r at *
              obtain ⟨na, da⟩ := p
              obtain ⟨nb, db⟩ := q
              obtain ⟨nc, dc⟩ := r
              simp only at hc0 hc1 hd0 hd1 he0 he1 x1 y1 x2 y2 x3 y3
              generalize (i + k) % M = im at *
              have l0 := fun x : Later v0 => Later.cell hc0 x
              have l1 := fun x : Later v0 => Later.cell hc1 x
              have l2 := fun x : Later v0 => Later.cell hd0 x
              have l3 := fun x : Later v0 => Later.cell hd1 x
              have l4 := fun x : Later v0 => Later.cell he0 x
              have l5 := fun x : Later v0 => Later.cell he1 x
              have lS := fun x : Later v0 => ratsums_any na da nb db x1 y1 x2 y2 x.w (LaidT.keep KG.out x.below)
              have lB := fun x : Later v0 => ratBack_walk na da nb db x1 y1 x2 y2 x.w
              have lO := fun x : Later v0 => ratOrders_walk na da nb db nc dc x1 y1 x2 y2 x3 y3 x.w
              have lH := fun x : Later v0 => ratholds_any na da nb db x1 y1 x2 y2 x.w (LaidT.keep KG.out x.below)
              go_wp2_with fail
              refine wp_region_later0 (by kernel_rfl) (by kernel_rfl) ?_
              repeat (go_big_quiet_step ((first | (go_at_call 41; with_reducible exact Later.made (lB _)) | (go_at_call 42; with_reducible exact Later.made (lO _)) | (go_at_call 37; with_reducible exact Later.made (lH _)) | (go_at_call 39; with_reducible exact Later.made (lS _)))))
              refine wpQuiet_nil ?_
              rintro _ ⟨x, rfl⟩
              replace KB := Lib.hid (bstep KB.out x.below (Nat.le_refl _))
              clear l0 l1 l2 l3 l4 l5 lS lB lO lH htm EW
              generalize x.w = v1 at *
              go_wp2_with fail
              go_roundw
              case rel => exact ⟨k + 2, by omega, by first | rfl | go_num, KB.out⟩
              case measure => (simp [intOf] <;> omega)
            · go_wp2_with fail
              go_roundw
              case rel => exact ⟨i + 3, by omega, by first | rfl | go_num, hbk⟩
              case measure => (simp [intOf] <;> omega)
        · replace HB := Lib.hid (bstep HB.out hbi (Nat.le_refl _))
          clear hbi
          have hgI : (50 : Int) < M := by omega
          go_wp2_with fail
          go_ret
          exact ⟨rfl, HB.out⟩

set_option maxHeartbeats 2000000 in
theorem ratknown_any (w : World) (hg : LaidT w) (hp : PowTab w) :
    Calls Tryz.prog 5 #[] w fun e w' => e = .returned (.bool true) ∧ Below w.heap.size w w' := by
  have HG := Lib.hid hg
  have HP := Lib.hid hp
  clear hg hp
  go_enter Tryz.func5, Tryz.ntmps5
  go_wp2_with fail
  with_reducible refine (knownSums_any _ HG.out).mono ?_
  rintro e w1 ⟨rfl, hb⟩
  have HB1 := Lib.hid hb
  clear hb
  go_wp2_with fail
  with_reducible refine (knownTexts_any _ (LaidT.keep HG.out HB1.out)).mono ?_
  rintro e w2 ⟨rfl, hb⟩
  have HB2 := Lib.hid (bstep HB1.out hb (Nat.le_refl _))
  clear hb
  go_wp2_with fail
  with_reducible refine (knownEnds_any _ (LaidT.keep HG.out HB2.out) (PowTab.keep HP.out HB2.out)).mono ?_
  rintro e w3 ⟨rfl, hb⟩
  have HB3 := Lib.hid (bstep HB2.out hb (Nat.le_refl _))
  clear hb
  go_wp2_with fail
  with_reducible refine (knownNear_any _ (LaidT.keep HG.out HB3.out)).mono ?_
  rintro e w4 ⟨rfl, hb⟩
  have HB4 := Lib.hid (bstep HB3.out hb (Nat.le_refl _))
  clear hb
  go_wp2_with fail
  go_ret
  exact ⟨rfl, HB4.out⟩
end Go.Proofs.YtajebceanonalaaGreatDoor
