/-
  rat's Parse: contract.
-/
import Derived.Test.YtmifjfohanegiaaGreatDoorParP
namespace Go.Proofs.YtmifjfohanegiaaGreatDoor
set_option linter.unusedVariables false
open Go.RowKit

set_option maxRecDepth 100000 in
set_option maxHeartbeats 8000000 in
theorem parse_any (s : List UInt8) (hs : s.length ≤ 9223372036854775807) (w : World) :
    Calls Tryz.prog 13 #[.string ⟨s.toArray⟩] w fun e w' => e = .returned (parseV s) ∧ Below w.heap.size w w' := by
  obtain ⟨F, hF⟩ : ∃ F, F = parseV s := ⟨_, rfl⟩
  rw [← hF]
  have HF := Lib.hid hF
  clear hF
  obtain ⟨tr, hsz, hbw⟩ := box1 w #[.int .i64 0, .int .i64 0] 40
  have TR := Lib.hid tr
  have HBW := Lib.hid hbw
  clear tr hbw
  by_cases h96 : (96 : Int) < s.length
  · have HN := Lib.hid (show F = .tuple #[.agg #[.int .i64 0, .int .i64 0], errV 3] by rw [HF.out]; unfold parseV; rw [if_pos (by omega)])
    clear HF
    go_enter Tryz.func13, Tryz.ntmps13
    go_wp2_with fail
    generalize w.alloc (.cells #[.int .i64 0, .int .i64 0] 40) = W at *
    obtain ⟨r0, r1, r2, r3⟩ := TR.out.two
    exact bodyPost_ret (v := .tuple #[.agg #[.int .i64 0, .int .i64 0], errV 3]) (by simp [results, Tryz.results13, go_sem, r0, r1, errV]) rfl ⟨by rw [HN.out], HBW.out⟩
  have cr := read_any s (by omega)
  have HF2 := Lib.hid (show F = parseR (readL s) by rw [HF.out]; unfold parseV; rw [if_neg (by omega)])
  have HFA := Lib.hid (fun neg d p (h : readL s = some (neg, d, p)) => read_facts h)
  clear HF
  generalize readL s = R at *
  go_enter Tryz.func13, Tryz.ntmps13
  go_wp2_with fail
  generalize w.alloc (.cells #[.int .i64 0, .int .i64 0] 40) = W at *
  with_reducible refine (cr _).mono ?_
  rintro e w1 ⟨neg, d, p, b, rfl, hb1, hok⟩
  clear cr
  have TR1 := Lib.hid (TR.out.keep hb1 (Nat.le_refl _))
  have HB1 := Lib.hid (show Below w.heap.size w w1 from bstep HBW.out hb1 (by omega))
  have hs1 := Lib.hid (show w.heap.size + 1 ≤ w1.heap.size by have := hb1.size; omega)
  clear hb1 TR HBW hsz
  obtain ⟨tn, hsz, hbw⟩ := box1 w1 #[.bool neg, .string ⟨d.toArray⟩, .int .i64 p] 56
  have TN := Lib.hid tn
  have TR2 := Lib.hid (TR1.out.keep hbw (Nat.le_refl _))
  have HB2 := Lib.hid (show Below w.heap.size w (w1.alloc (.cells #[.bool neg, .string ⟨d.toArray⟩, .int .i64 p] 56)) from bstep HB1.out hbw (by have := hs1.out; omega))
  clear tn hbw TR1 HB1
  have HOK := Lib.hid hok
  clear hok
  cases b
  · have HN := Lib.hid (show F = .tuple #[.agg #[.int .i64 0, .int .i64 0], errV 8] by
      rw [HF2.out]
      have h := HOK.out
      cases R with
      | none => rfl
      | some x => obtain ⟨n', d', p'⟩ := x; exact absurd h.1 (by decide))
    obtain ⟨r0, r1, r2, r3⟩ := TR2.out.two
    go_wp2_with fail
    generalize w1.alloc (.cells #[.bool neg, .string ⟨d.toArray⟩, .int .i64 p] 56) = W2 at *
    exact bodyPost_ret (v := .tuple #[.agg #[.int .i64 0, .int .i64 0], errV 8]) (by simp [results, Tryz.results13, go_sem, r0, r1, errV]) rfl ⟨by rw [HN.out], (HB2.out.setCell (by simp) _).setCell (by simp) _⟩
  · have hR : R = some (neg, d, p) := by
      have h := HOK.out
      cases R with
      | none => exact absurd (show true = false from h) (by decide)
      | some x => obtain ⟨n', d', p'⟩ := x; obtain ⟨_, rfl, rfl, rfl⟩ := h; rfl
    have HF3 := Lib.hid (show F = ratV (parseF neg (valL d) p) by rw [HF2.out, hR]; rfl)
    obtain ⟨hdg, hdl, hp1, hp2⟩ := HFA.out neg d p hR
    have HDG := Lib.hid hdg
    clear HF2 HFA HOK hR hdg
    go_wp2_with fail
    generalize w1.alloc (.cells #[.bool neg, .string ⟨d.toArray⟩, .int .i64 p] 56) = W2 at *
    have HNB := Lib.hid (show w1.heap.size ≠ w.heap.size by have := hs1.out; omega)
    generalize hA : w1.heap.size = A at *
    clear hA
    obtain ⟨r0, r1, r2, r3⟩ := TR2.out.two
    obtain ⟨a0, a1, a2, a3, a4, a5⟩ := TN.out.three
    rcases Nat.eq_zero_or_pos (valL d) with hV | hV
    · have HN := Lib.hid (show F = ratV (some (0, 1)) by rw [HF3.out, hV]; unfold parseF; rw [Nat.zero_mul, frac_zero])
      have ct : ∀ w : World, Calls Tryz.prog 26 #[.string ⟨d.toArray⟩, .string ⟨#[48]⟩] w fun e w' => e = .returned (.string ⟨#[]⟩) ∧ w' = w := fun w => by
        have h := Tryz.strings_TrimLeft_one ⟨d.toArray⟩ 48 (by decide) w
        rw [show Lib.trimLeftB (⟨d.toArray⟩ : ByteArray).data.toList 48 = [] from left_zero HDG.out hV] at h
        exact h
      clear hV HF3
      with_reducible refine (ct _).mono ?_
      rintro e w3 ⟨rfl, rfl⟩
      clear ct
      go_wp2_with fail
      exact bodyPost_ret (v := .tuple #[.agg #[.int .i64 0, .int .i64 1], .nilIface]) (by simp [results, Tryz.results13, go_sem, r0, r1]) rfl ⟨by rw [HN.out]; rfl, (HB2.out.setCell (by simp) _).setCell (by simp) _⟩
    · obtain ⟨v, z, hvz, hz, hv⟩ := strip_tens (valL d) hV
      have ct : ∀ w : World, Calls Tryz.prog 26 #[.string ⟨d.toArray⟩, .string ⟨#[48]⟩] w fun e w' => e = .returned (.string ⟨(Lib.decDigits (v * 10 ^ z)).toArray⟩) ∧ w' = w := fun w => by
        have h := Tryz.strings_TrimLeft_one ⟨d.toArray⟩ 48 (by decide) w
        rw [show Lib.trimLeftB (⟨d.toArray⟩ : ByteArray).data.toList 48 = Lib.decDigits (v * 10 ^ z) from hvz ▸ left_dec HDG.out hV] at h
        exact h
      have hl1 : (Lib.decDigits (v * 10 ^ z)).length = (Lib.decDigits v).length + z := by rw [dec_tens hv, List.length_append, List.length_replicate]
      have hl2 : (Lib.decDigits (v * 10 ^ z)).length ≤ 96 := by
        have h2 := left_dec HDG.out hV
        have h3 := (List.dropWhile_sublist (fun c : UInt8 => c == 48) (l := d)).length_le
        rw [h2, hvz] at h3
        omega
      have cu : ∀ w : World, Calls Tryz.prog 27 #[.string ⟨(Lib.decDigits (v * 10 ^ z)).toArray⟩, .string ⟨#[48]⟩] w fun e w' => e = .returned (.string ⟨(Lib.decDigits v).toArray⟩) ∧ w' = w := fun w => by
        have h := Tryz.strings_TrimRight_one ⟨(Lib.decDigits (v * 10 ^ z)).toArray⟩ 48 (by decide) w (by show (Lib.decDigits (v * 10 ^ z)).length ≤ _; omega)
        rw [show Lib.trimRightB (⟨(Lib.decDigits (v * 10 ^ z)).toArray⟩ : ByteArray).data.toList 48 = Lib.decDigits v from trim_dec z hv hz] at h
        exact h
      have HF4 := Lib.hid (show F = ratV (parseF neg v (p + z)) by rw [HF3.out, hvz, parseF_shift])
      have hne : Lib.decDigits (v * 10 ^ z) ≠ [] := by intro h; rw [h] at hl1; have h3 := dec_valL v; have : Lib.decDigits v = [] := List.length_eq_zero_iff.1 (by simp at hl1; omega); rw [this] at h3; simp [valL, valS] at h3; omega
      have HZ := Lib.hid (And.intro hv hz)
      have hl0 : 0 < (Lib.decDigits v).length := by
        obtain ⟨P, hP⟩ := dec_last v
        rw [hP]; simp
      clear HF3 hvz hz hV HDG
      generalize hL1 : Lib.decDigits (v * 10 ^ z) = L1 at *
      clear hL1
      have cs := fun (hneg : p + (z : Int) < 0) => small_any neg v (-(p + (z : Int))).toNat hv HZ.out.2 (by omega) (by omega)
      generalize hL2 : Lib.decDigits v = L2 at *
      have HL2 := Lib.hid hL2
      clear hL2
      have hlz : (L1.length : Int) - (L2.length : Int) = (z : Int) := by omega
      have HLZ := Lib.hid hl1
      clear hl1
      obtain ⟨ex, hex⟩ : ∃ ex : Int, ex = p + (z : Int) := ⟨_, rfl⟩
      rw [← hex] at HF4 cs
      have hex' : p + (z : Int) = ex := hex.symm
      have hx1 : ex ≤ 1100 := by omega
      have hx2 : -1100 ≤ ex := by omega
      clear hex hv
      have hne2 : L1.isEmpty = false := by cases L1 with | nil => exact absurd rfl hne | cons => rfl
      have HNE := Lib.hid hne
      clear hne
      with_reducible refine (ct _).mono ?_
      rintro e w3 ⟨rfl, rfl⟩
      clear ct
      go_wp2_with fail
      with_reducible refine (cu _).mono ?_
      rintro e w4 ⟨rfl, rfl⟩
      clear cu
      by_cases hpos : 0 ≤ ex
      · obtain ⟨e, rfl⟩ : ∃ e : Nat, ex = (e : Int) := ⟨ex.toNat, by omega⟩
        clear cs
        have HF5 := Lib.hid (show F = ratV (frac neg (v * 10 ^ e) 1) by
          rw [HF4.out]; unfold parseF
          rw [show (e : Int).toNat = e by omega, show (-(e : Int)).toNat = 0 by omega, Nat.pow_zero])
        have hdt := dec_tens HZ.out.1 e
        rw [HL2.out] at hdt
        by_cases hbig : (19 : Int) < (L2.length : Int) + (e : Int)
        · have HN := Lib.hid (show F = ratV none by
            rw [HF5.out, frac_over_num]
            have := dec_ge (V := v * 10 ^ e) (by rw [hdt, List.length_append, List.length_replicate]; omega)
            omega)
          clear hdt HF4 HF5
          go_wp2_with fail
          exact bodyPost_ret (v := .tuple #[.agg #[.int .i64 0, .int .i64 0], errV 9]) (by simp [results, Tryz.results13, go_sem, r0, r1, errV]) rfl ⟨by rw [HN.out]; rfl, ((HB2.out.setCell (by have := hs1.out; show w.heap.size ≤ A; omega) _).setCell (by simp) _).setCell (by simp) _⟩
        · have hnlt := dec_lt (V := v * 10 ^ e) (by rw [hdt, List.length_append, List.length_replicate]; omega)
          have cr : ∀ w : World, Calls Tryz.prog 29 #[.string ⟨#[48]⟩, .int .i64 (e : Nat)] w fun e' w' => e' = .returned (.string ⟨(List.replicate e 48).toArray⟩) ∧ Below w.heap.size w w' := fun w => by
            have h := Tryz.strings_Repeat ⟨#[48]⟩ e w (by omega) (by show 1 * e ≤ _; omega)
            rw [show Lib.repeatL (⟨#[48]⟩ : ByteArray).data.toList e = List.replicate e 48 from rep_zero e] at h
            exact h
          have hzl : (List.replicate e (48 : UInt8)).length = e := List.length_replicate
          have hnp : 0 < v * 10 ^ e := Nat.mul_pos HZ.out.1 (p10 e)
          have cp := Tryz.strconv_ParseUint_10_at64_ok ⟨(L2 ++ List.replicate e 48).toArray⟩ (by show (L2 ++ List.replicate e 48).length ≤ _; rw [List.length_append, hzl]; omega) (v * 10 ^ e) (by
            show Lib.parseUintB 64 (L2 ++ List.replicate e 48) = _
            rw [← hdt]
            have := pu_ok (dec_digL (v * 10 ^ e)) (by intro h; have h3 := dec_valL (v * 10 ^ e); rw [h] at h3; simp only [valL, valS, List.foldl_nil] at h3; omega) (by rw [dec_valL]; omega)
            rwa [dec_valL] at this)
          have cf := fit_any neg (v * 10 ^ e) 1 (by omega) (by decide)
          rw [Nat.div_eq_of_lt (show v * 10 ^ e < 18446744073709551616 by omega), Nat.mod_eq_of_lt (show v * 10 ^ e < 18446744073709551616 by omega), ← frac_one] at cf
          obtain ⟨G, hG⟩ : ∃ G, G = frac neg (v * 10 ^ e) 1 := ⟨_, rfl⟩
          rw [← hG] at cf HF5
          clear hG HF4 hdt hnp
          generalize v * 10 ^ e = n at *
          have cg : ∀ w : World, Calls Tryz.prog 30 #[.bool neg, .int .u64 0, .int .u64 (n : Nat), .int .u64 0, .int .u64 1] w fun e w' => e = .returned (ratV G) ∧ Below w.heap.size w w' := cf
          clear cf
          have hst := strA L2 (List.replicate e 48)
          generalize List.replicate e (48 : UInt8) = Z at *
          have hl3 : ¬ 9223372036854775807 < L2.length + Z.length := by omega
          have hl4 : L2.length < 9223372036854775807 := by omega
          have hl5 : Z.length < 9223372036854775807 := by omega
          have HZL := Lib.hid hzl
          clear hzl
          have TN3 := Lib.hid (show Blk (w4.setCell ⟨A, 2, none⟩ (.int .i64 (e : Nat))) A #[.bool neg, .string ⟨d.toArray⟩, .int .i64 (e : Nat)] from TN.out.set 2 (.int .i64 (e : Nat)))
          have TR3 := Lib.hid (TR2.out.other (a := ⟨A, 2, none⟩) HNB.out (.int .i64 (e : Nat)))
          have HB3 := Lib.hid (show Below w.heap.size w (w4.setCell ⟨A, 2, none⟩ (.int .i64 (e : Nat))) from HB2.out.setCell (by have := hs1.out; show w.heap.size ≤ A; omega) _)
          have hs3 := Lib.hid (show w.heap.size ≤ (w4.setCell ⟨A, 2, none⟩ (.int .i64 (e : Nat))).heap.size from HB3.out.size)
          go_wp2_with fail
          generalize w4.setCell ⟨A, 2, none⟩ (.int .i64 (e : Nat)) = W3 at *
          clear r0 r1 r2 r3 a0 a1 a2 a3 a4 a5
          with_reducible refine (cr _).mono ?_
          rintro e' w5 ⟨rfl, hb5⟩
          clear cr
          have TN5 := Lib.hid (TN3.out.keep hb5 (Nat.le_refl _))
          have TR5 := Lib.hid (TR3.out.keep hb5 (Nat.le_refl _))
          have HB5 := Lib.hid (show Below w.heap.size w w5 from bstep HB3.out hb5 (Nat.le_refl _))
          have hs5 := Lib.hid HB5.out.size
          clear hb5
          go_wp2_with fail
          with_reducible refine (cp _).mono ?_
          rintro e' w6 ⟨rfl, hb6⟩
          clear cp
          replace hb6 := below_or hb6
          have TN6 := Lib.hid (TN5.out.keep hb6 (Nat.le_refl _))
          have TR6 := Lib.hid (TR5.out.keep hb6 (Nat.le_refl _))
          have HB6 := Lib.hid (show Below w.heap.size w w6 from bstep HB5.out hb6 (Nat.le_refl _))
          have hs6 := Lib.hid HB6.out.size
          clear hb6
          obtain ⟨a0, a1, a2, a3, a4, a5⟩ := TN6.out.three
          go_wp2_with fail
          with_reducible refine (cg _).mono ?_
          rintro e' w7 ⟨rfl, hb7⟩
          clear cg
          have TR7 := Lib.hid (TR6.out.keep hb7 (Nat.le_refl _))
          have HB7 := Lib.hid (show Below w.heap.size w w7 from bstep HB6.out hb7 (Nat.le_refl _))
          clear hb7 a0 a1 a2 a3 a4 a5
          obtain ⟨r0, r1, r2, r3⟩ := TR7.out.two
          rcases G with _ | ⟨x, y⟩
          · simp only [ratV, errV]
            go_wp2_with fail
            exact bodyPost_ret (v := .tuple #[.agg #[.int .i64 0, .int .i64 0], errV 9]) (by simp [results, Tryz.results13, go_sem, r0, r1, errV]) rfl ⟨by rw [HF5.out]; rfl, (HB7.out.setCell (by simp) _).setCell (by simp) _⟩
          · simp only [ratV]
            go_wp2_with fail
            exact bodyPost_ret (v := .tuple #[.agg #[.int .i64 x, .int .i64 y], .nilIface]) (by simp [results, Tryz.results13, go_sem, r0, r1]) rfl ⟨by rw [HF5.out]; rfl, (HB7.out.setCell (by simp) _).setCell (by simp) _⟩
      · obtain ⟨k, hk⟩ : ∃ k : Nat, -ex = (k : Int) := ⟨(-ex).toNat, by omega⟩
        have hkn : (-ex).toNat = k := by omega
        have HF5 := Lib.hid (show F = ratV (frac neg v (10 ^ k)) by
          rw [HF4.out]; unfold parseF
          rw [show ex.toNat = 0 by omega, hkn, Nat.pow_zero, Nat.mul_one])
        have cg := cs (by omega)
        rw [hkn] at cg
        obtain ⟨G, hG⟩ : ∃ G, G = frac neg v (10 ^ k) := ⟨_, rfl⟩
        rw [← hG] at cg HF5
        clear hG HF4 hkn cs
        have TN3 := Lib.hid (show Blk (w4.setCell ⟨A, 2, none⟩ (.int .i64 ex)) A #[.bool neg, .string ⟨d.toArray⟩, .int .i64 ex] from TN.out.set 2 (.int .i64 ex))
        have TR3 := Lib.hid (TR2.out.other (a := ⟨A, 2, none⟩) HNB.out (.int .i64 ex))
        have HB3 := Lib.hid (show Below w.heap.size w (w4.setCell ⟨A, 2, none⟩ (.int .i64 ex)) from HB2.out.setCell (by have := hs1.out; show w.heap.size ≤ A; omega) _)
        have hs3 := Lib.hid (show w.heap.size ≤ (w4.setCell ⟨A, 2, none⟩ (.int .i64 ex)).heap.size from HB3.out.size)
        go_wp2_with fail
        generalize w4.setCell ⟨A, 2, none⟩ (.int .i64 ex) = W3 at *
        clear r0 r1 r2 r3 a0 a1 a2 a3 a4 a5
        with_reducible refine (cg _).mono ?_
        rintro e' w7 ⟨rfl, hb7⟩
        clear cg
        have TR7 := Lib.hid (TR3.out.keep hb7 (Nat.le_refl _))
        have HB7 := Lib.hid (show Below w.heap.size w w7 from bstep HB3.out hb7 (Nat.le_refl _))
        clear hb7
        obtain ⟨r0, r1, r2, r3⟩ := TR7.out.two
        rcases G with _ | ⟨x, y⟩
        · simp only [ratV, errV]
          go_wp2_with fail
          exact bodyPost_ret (v := .tuple #[.agg #[.int .i64 0, .int .i64 0], errV 9]) (by simp [results, Tryz.results13, go_sem, r0, r1, errV]) rfl ⟨by rw [HF5.out]; rfl, (HB7.out.setCell (by simp) _).setCell (by simp) _⟩
        · simp only [ratV]
          go_wp2_with fail
          exact bodyPost_ret (v := .tuple #[.agg #[.int .i64 x, .int .i64 y], .nilIface]) (by simp [results, Tryz.results13, go_sem, r0, r1]) rfl ⟨by rw [HF5.out]; rfl, (HB7.out.setCell (by simp) _).setCell (by simp) _⟩
end Go.Proofs.YtmifjfohanegiaaGreatDoor
