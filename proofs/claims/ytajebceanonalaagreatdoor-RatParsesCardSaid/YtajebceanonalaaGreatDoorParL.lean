/-
  rat's long: contract.
-/
import Derived.Test.YtajebceanonalaaGreatDoorParU
import Derived.Test.YtajebceanonalaaGreatDoorRatD
import Derived.Test.YtajebceanonalaaGreatDoorBaseD
namespace Go.Proofs.YtajebceanonalaaGreatDoor
set_option linter.unusedVariables false
open Go.RowKit

theorem dec_last (V : Nat) : ∃ P, Lib.decDigits V = P ++ [dgt V] := by
  obtain ⟨k, h1, _⟩ := dec_len V
  exact ⟨padD k (V / 10), by rw [h1, padD_snoc]⟩
theorem dgt_val (V : Nat) : (dgt V).toNat = 48 + V % 10 := by
  have e : dgt V = dgt (V % 10) := by unfold dgt; rw [Nat.mod_mod]
  rw [e, dgt_toNat (Nat.mod_lt _ (by decide))]
theorem last_dig (V : Nat) : ∃ p, (Lib.decDigits V).length = p + 1 ∧ ∃ h : p < (Lib.decDigits V).length, (⟨(Lib.decDigits V).toArray⟩ : ByteArray)[p]'h = dgt V := by
  obtain ⟨P, hP⟩ := dec_last V
  rw [hP]
  exact ⟨P.length, by simp, by simp, by show (P ++ [dgt V])[P.length]'_ = dgt V; simp⟩
def dnN (two i : Nat) : Nat := if i ≤ two then 2 ^ i else 2 ^ two * 5 ^ (i - two)
theorem dn_step (two i : Nat) : dnN two (i + 1) = dnN two i * (if two ≤ i then 5 else 2) := by
  unfold dnN
  by_cases h : i < two
  · rw [if_pos (by omega), if_pos (by omega), if_neg (by omega), Nat.pow_succ]
  · rw [if_neg (by omega), if_pos (show two ≤ i by omega)]
    by_cases h2 : i = two
    · subst h2; rw [if_pos (Nat.le_refl _)]; simp
    · rw [if_neg (by omega), Nat.mul_assoc, ← Nat.pow_succ]
      congr 2; omega
theorem dn_pos (two i : Nat) : 0 < dnN two i := by
  unfold dnN; split
  · exact Nat.pow_pos (by decide)
  · exact Nat.mul_pos (Nat.pow_pos (by decide)) (Nat.pow_pos (by decide))
theorem dn_mono (two i j : Nat) (h : i ≤ j) : dnN two i ≤ dnN two j := by
  obtain ⟨k, rfl⟩ : ∃ k, j = i + k := ⟨j - i, by omega⟩
  induction k with
  | zero => exact Nat.le_refl _
  | succ k ih =>
    refine Nat.le_trans (ih (by omega)) ?_
    rw [← Nat.add_assoc, dn_step]
    exact Nat.le_mul_of_pos_right _ (by split <;> decide)
theorem dn_end (two five : Nat) : dnN two (two + five) = 2 ^ two * 5 ^ five := by
  unfold dnN
  by_cases h : five = 0
  · subst h; rw [if_pos (by omega)]; simp
  · rw [if_neg (by omega), Nat.add_sub_cancel_left]
theorem fitE_den {neg : Bool} {V D : Nat} (hV : V ≠ 0) (h : 9223372036854775807 < D) : fitE neg V D = none := by unfold fitE; rw [if_neg hV, if_pos (.inl h)]
theorem fitE_num {neg : Bool} {V D : Nat} (h : 9223372036854775808 < V) : fitE neg V D = none := by unfold fitE; rw [if_neg (by omega), if_pos (.inr (.inl h))]
theorem below_or {w w' : World} {e : TypeId} {s : ByteArray} (h : w' = w ∨ w' = Lib.bytesWorld w e s) : Below w.heap.size w w' := by
  rcases h with rfl | rfl
  · exact Below.refl _ _
  · exact Joins.below_bytesWorld _ w e s (Nat.le_refl _)
theorem half_inv {v V two back : Nat} (h : v * 2 ^ (two + 1) = V * 2 ^ back) (hV : V % 2 = 0) : v * 2 ^ two = V / 2 * 2 ^ back := by
  obtain ⟨k, rfl⟩ := Nat.dvd_of_mod_eq_zero hV
  rw [Nat.mul_div_cancel_left _ (by decide)]
  rw [Nat.pow_succ, ← Nat.mul_assoc, Nat.mul_comm _ 2, Nat.mul_assoc 2 k] at h
  exact Nat.eq_of_mul_eq_mul_left (by decide) h
theorem fifth_inv {x V five back : Nat} (h : x * 5 ^ (five + 1) = V * 5 ^ back) (hV : V % 5 = 0) : x * 5 ^ five = V / 5 * 5 ^ back := by
  obtain ⟨k, rfl⟩ := Nat.dvd_of_mod_eq_zero hV
  rw [Nat.mul_div_cancel_left _ (by decide)]
  rw [Nat.pow_succ, ← Nat.mul_assoc, Nat.mul_comm _ 5, Nat.mul_assoc 5 k] at h
  exact Nat.eq_of_mul_eq_mul_left (by decide) h
theorem dec_len_mono {a b : Nat} (h : a ≤ b) : (Lib.decDigits a).length ≤ (Lib.decDigits b).length := by
  obtain ⟨k, h1, h2, _⟩ := dec_len b
  rw [h1, padD_len]
  exact dec_len_le a (k + 1) (Nat.lt_of_le_of_lt h h2) (by omega)
theorem dec_ge {V : Nat} (h : 19 < (Lib.decDigits V).length) : 10000000000000000000 ≤ V := by
  obtain ⟨k, h1, h2, h3⟩ := dec_len V
  rw [h1, padD_len] at h
  rcases h3 with rfl | h3
  · omega
  · exact Nat.le_trans (show 10000000000000000000 ≤ 10 ^ k from Nat.le_trans (by decide) (Nat.pow_le_pow_right (by decide) (show 19 ≤ k by omega))) h3
theorem dec_lt {V : Nat} (h : ¬ 19 < (Lib.decDigits V).length) : V < 10000000000000000000 := by
  obtain ⟨k, h1, h2, h3⟩ := dec_len V
  rw [h1, padD_len] at h
  exact Nat.lt_of_lt_of_le h2 (Nat.le_trans (Nat.pow_le_pow_right (by decide) (show k + 1 ≤ 19 by omega)) (by decide))

set_option maxRecDepth 100000 in
set_option maxHeartbeats 4000000 in
theorem long_any (neg : Bool) (v back : Nat) (hv : 0 < v) (hb : back ≤ 62) (hlen : (Lib.decDigits v).length ≤ 200) (w : World) :
    Calls Tryz.prog 62 #[.bool neg, .string ⟨(Lib.decDigits v).toArray⟩, .int .i64 back] w fun e w' => e = .returned (ratV (frac neg v (10 ^ back))) ∧ Below w.heap.size w w' := by
  obtain ⟨F, hF⟩ : ∃ F, F = frac neg v (10 ^ back) := ⟨_, rfl⟩
  rw [← hF]
  have HF := Lib.hid hF
  clear hF
  obtain ⟨tr, hsz, hbw⟩ := box1 w #[.int .i64 0, .int .i64 0] 23
  have TR := Lib.hid tr
  have HBW := Lib.hid hbw
  clear tr hsz hbw
  go_enter Tryz.func62, Tryz.ntmps62
  go_wp2_with fail
  generalize w.alloc (.cells #[.int .i64 0, .int .i64 0] 23) = W at *
  go_loopw [1, 8] (fun s x wr => ∃ V two : Nat, s = .string ⟨(Lib.decDigits V).toArray⟩ ∧ x = .int .i64 (two : Nat) ∧ two ≤ back ∧ 0 < V ∧ V ≤ v ∧ v * 2 ^ two = V * 2 ^ back ∧ wr = W) (fun _ x _ => (intOf x).toNat)
  case atStart => exact ⟨v, back, rfl, rfl, Nat.le_refl _, hv, Nat.le_refl _, rfl, rfl⟩
  case round =>
    obtain ⟨V, two, rfl, rfl, htw, hV0, hVv, hinv, rfl⟩ := hrel
    have HINV := Lib.hid hinv
    have hVl := Nat.le_trans (dec_len_mono hVv) hlen
    have cd : V % 2 = 0 → ∀ w : World, Calls Tryz.prog 104 #[.string ⟨(Lib.decDigits V).toArray⟩, .int .i64 2] w fun e w' => e = .returned (.string ⟨(Lib.decDigits (V / 2)).toArray⟩) ∧ w' = w := fun h w => divided_digits V 2 hV0 (by decide) (by decide) h (by omega) w
    obtain ⟨p, hp, hlt, hget⟩ := last_dig V
    have hdv : ((dgt V).toNat : Int) = 48 + ((V % 10 : Nat) : Int) := by rw [dgt_val]; omega
    have hsub : ((Lib.decDigits V).length : Int) - 1 = (p : Int) := by omega
    have hm9 : V % 10 ≤ 9 := by omega
    clear hinv
    generalize hL : Lib.decDigits V = L at *
    have HL := Lib.hid hL
    clear hL
    generalize dgt V = c at *
    have HP := Lib.hid hp
    clear hp
    obtain ⟨b, hb⟩ : ∃ b, b = decide (0 < two ∧ V % 2 = 0) := ⟨_, rfl⟩
    go_upto_region 2 with fail
    go_cut [28] (fun x wc => x = .bool b ∧ wc = wr)
    case first =>
      by_cases h0 : 0 < two
      · have h0' : (0 : Int) < two := by omega
        by_cases h2 : V % 2 = 0
        · have hb1 : b = true := by rw [hb]; exact decide_eq_true ⟨h0, h2⟩
          have e1 : (48 + ((V % 10 : Nat) : Int) - 48) % 2 = 0 := by omega
          subst hb1
          generalize V % 10 = m at *
          clear cd hb h2
          go_wp2_with fail
          go_meet
          case rel => exact ⟨rfl, rfl⟩
        · have hb1 : b = false := by rw [hb]; exact decide_eq_false (fun h => h2 h.2)
          have e1 : (48 + ((V % 10 : Nat) : Int) - 48) % 2 = 1 := by omega
          subst hb1
          generalize V % 10 = m at *
          clear cd hb h2
          go_wp2_with fail
          go_meet
          case rel => exact ⟨rfl, rfl⟩
      · have h0' : ¬ (0 : Int) < two := by omega
        have hb1 : b = false := by rw [hb]; exact decide_eq_false (fun h => h0 h.1)
        subst hb1
        clear cd hb
        go_wp2_with fail
        go_meet
        case rel => exact ⟨rfl, rfl⟩
    case rest =>
      obtain ⟨rfl, rfl⟩ := hcut
      clear hlt hget hdv hsub hm9
      cases b
      · have hend : two = 0 ∨ V % 2 ≠ 0 := by
          rcases Nat.eq_zero_or_pos two with h | h
          · exact .inl h
          · right; intro h2; rw [decide_eq_true ⟨h, h2⟩] at hb; cases hb
        clear cd hb
        have hl := HL.out
        subst hl
        clear HL HP
        go_wp2_with fail
        go_loopw [1, 9] (fun s x ws => ∃ X five : Nat, s = .string ⟨(Lib.decDigits X).toArray⟩ ∧ x = .int .i64 (five : Nat) ∧ five ≤ back ∧ 0 < X ∧ X ≤ V ∧ V * 5 ^ five = X * 5 ^ back ∧ (two = 0 ∨ X % 2 ≠ 0) ∧ ws = wc) (fun _ x _ => (intOf x).toNat)
        case atStart => exact ⟨V, back, rfl, rfl, Nat.le_refl _, hV0, Nat.le_refl _, rfl, hend, rfl⟩
        case round =>
          obtain ⟨X, five, rfl, rfl, hfw, hX0, hXV, hinv5, hend2, rfl⟩ := hrel
          have HINV5 := Lib.hid hinv5
          have HEND2 := Lib.hid hend2
          have hXl := Nat.le_trans (dec_len_mono (Nat.le_trans hXV hVv)) hlen
          have cd : X % 5 = 0 → ∀ w : World, Calls Tryz.prog 104 #[.string ⟨(Lib.decDigits X).toArray⟩, .int .i64 5] w fun e w' => e = .returned (.string ⟨(Lib.decDigits (X / 5)).toArray⟩) ∧ w' = w := fun h w => divided_digits X 5 hX0 (by decide) (by decide) h (by omega) w
          obtain ⟨p, hp, hlt, hget⟩ := last_dig X
          have hdv : ((dgt X).toNat : Int) = 48 + ((X % 10 : Nat) : Int) := by rw [dgt_val]; omega
          have hsub : ((Lib.decDigits X).length : Int) - 1 = (p : Int) := by omega
          have hm9 : X % 10 ≤ 9 := by omega
          clear hinv5 hend hend2
          generalize hL : Lib.decDigits X = L at *
          have HL := Lib.hid hL
          clear hL
          generalize dgt X = c at *
          have HP := Lib.hid hp
          clear hp
          obtain ⟨b, hb⟩ : ∃ b, b = decide (0 < five ∧ X % 5 = 0) := ⟨_, rfl⟩
          go_upto_region 5 with fail
          go_cut [43] (fun x wc => x = .bool b ∧ wc = wr)
          case first =>
            by_cases h0 : 0 < five
            · have h0' : (0 : Int) < five := by omega
              by_cases h2 : X % 5 = 0
              · have hb1 : b = true := by rw [hb]; exact decide_eq_true ⟨h0, h2⟩
                have e1 : (48 + ((X % 10 : Nat) : Int)) % 5 = 3 := by omega
                subst hb1
                generalize X % 10 = m at *
                clear cd hb h2
                go_wp2_with fail
                go_meet
                case rel => exact ⟨rfl, rfl⟩
              · have hb1 : b = false := by rw [hb]; exact decide_eq_false (fun h => h2 h.2)
                have e1 : ¬ (48 + ((X % 10 : Nat) : Int)) % 5 = 3 := by omega
                have e2 : (((48 + ((X % 10 : Nat) : Int)) % 5 == 3) = false) := by rw [beq_eq_false_iff_ne]; exact e1
                subst hb1
                generalize X % 10 = m at *
                clear cd hb h2
                go_wp2_with fail
                go_meet
                case rel => exact ⟨rfl, rfl⟩
            · have h0' : ¬ (0 : Int) < five := by omega
              have hb1 : b = false := by rw [hb]; exact decide_eq_false (fun h => h0 h.1)
              subst hb1
              clear cd hb
              go_wp2_with fail
              go_meet
              case rel => exact ⟨rfl, rfl⟩
          case rest =>
            obtain ⟨rfl, rfl⟩ := hcut
            clear hlt hget hdv hsub hm9
            cases b
            · have hend5 : five = 0 ∨ X % 5 ≠ 0 := by
                rcases Nat.eq_zero_or_pos five with h | h
                · exact .inl h
                · right; intro h2; rw [decide_eq_true ⟨h, h2⟩] at hb; cases hb
              clear cd hb
              have hl := HL.out
              subst hl
              clear HL HP
              have HFX : Hid (F = fitE neg X (2 ^ two * 5 ^ five)) := Lib.hid (by
                rw [HF.out, long_frac (V := X) (two := two) (five := five) (by
                  rw [← Nat.mul_assoc, HINV.out, Nat.mul_right_comm, HINV5.out, Nat.mul_assoc, ← Nat.mul_pow]), frac_cop (cop_end HEND2.out hend5)])
              clear HF HINV HINV5 HEND2 hend5
              have h2w : ¬ (62 : Int) < two := by omega
              by_cases h19 : (19 : Int) < (Lib.decDigits X).length
              · have HN := Lib.hid (show F = none by rw [HFX.out]; exact fitE_num (Nat.lt_of_lt_of_le (by decide) (dec_ge (V := X) (by omega))))
                obtain ⟨r0, r1, r2, r3⟩ := TR.out.two
                go_wp2_with fail
                exact bodyPost_ret (v := .tuple #[.agg #[.int .i64 0, .int .i64 0], errV 9]) (by simp [results, Tryz.results62, go_sem, r0, r1, errV]) rfl ⟨by rw [HN.out]; rfl, (HBW.out.setCell (by simp) _).setCell (by simp) _⟩
              by_cases h27 : (27 : Int) < five
              · have HN := Lib.hid (show F = none by rw [HFX.out]; exact fitE_den (by omega) (Nat.lt_of_lt_of_le (show 9223372036854775807 < 5 ^ 28 by decide) (Nat.le_trans (Nat.pow_le_pow_right (by decide) (show 28 ≤ five by omega)) (Nat.le_mul_of_pos_left _ (Nat.pow_pos (by decide))))))
                obtain ⟨r0, r1, r2, r3⟩ := TR.out.two
                go_wp2_with fail
                exact bodyPost_ret (v := .tuple #[.agg #[.int .i64 0, .int .i64 0], errV 9]) (by simp [results, Tryz.results62, go_sem, r0, r1, errV]) rfl ⟨by rw [HN.out]; rfl, (HBW.out.setCell (by simp) _).setCell (by simp) _⟩
              have hXlt : X < 10000000000000000000 := dec_lt (by omega)
              have cp := Tryz.strconv_ParseUint_10_at64_ok ⟨(Lib.decDigits X).toArray⟩ (by show (Lib.decDigits X).length ≤ _; omega) X (by
                show Lib.parseUintB 64 (Lib.decDigits X) = _
                have := pu_ok (dec_digL X) (by intro h; have h3 := dec_valL X; rw [h] at h3; simp [valL, valS] at h3; omega) (by rw [dec_valL]; omega)
                rwa [dec_valL] at this)
              generalize Lib.decDigits X = L at *
              go_upto_region 10 with fail
              go_wp2_with fail
              with_reducible refine (cp _).mono ?_
              rintro e w1 ⟨rfl, hb1⟩
              clear cp
              replace hb1 := below_or hb1
              have TR1 := Lib.hid (TR.out.keep hb1 (Nat.le_refl _))
              have HB1 := Lib.hid (show Below w.heap.size w w1 from bstep HBW.out hb1 (Nat.le_refl _))
              clear hb1
              go_wp2_with fail
              go_loopw [12, 13] (fun d x ws => ∃ i : Nat, d = .int .u64 (dnN two i : Nat) ∧ dnN two i ≤ 9223372036854775807 ∧ x = .int .i64 (i : Nat) ∧ i ≤ two + five ∧ ws = w1) (fun _ x _ => two + five - (intOf x).toNat)
              case atStart => exact ⟨0, rfl, by simp [dnN], rfl, Nat.zero_le _, rfl⟩
              case round =>
                obtain ⟨i, rfl, hd, rfl, hi, rfl⟩ := hrel
                have HD := Lib.hid hd
                have hdI : ((dnN two i : Nat) : Int) ≤ 9223372036854775807 := by omega
                clear hd
                by_cases hlt : (i : Int) < (two : Int) + (five : Int)
                · have hst := dn_step two i
                  by_cases hge : two ≤ i
                  · have hgeI : (two : Int) ≤ (i : Int) := by omega
                    rw [if_pos hge] at hst
                    by_cases hov : 1844674407370955161 < dnN two i
                    · have HN := Lib.hid (show F = none by
                        rw [HFX.out, ← dn_end]
                        exact fitE_den (by omega) (Nat.lt_of_lt_of_le (by omega) (dn_mono two (i + 1) (two + five) (by omega))))
                      have hovI : (1844674407370955161 : Int) < (dnN two i : Nat) := by omega
                      clear hst
                      generalize dnN two i = d at *
                      obtain ⟨r0, r1, r2, r3⟩ := TR1.out.two
                      go_wp2_with fail
                      exact bodyPost_ret (v := .tuple #[.agg #[.int .i64 0, .int .i64 0], errV 9]) (by simp [results, Tryz.results62, go_sem, r0, r1, errV]) rfl ⟨by rw [HN.out]; rfl, (HB1.out.setCell (by simp) _).setCell (by simp) _⟩
                    · have HS := Lib.hid (And.intro hst (show dnN two i * 5 ≤ 9223372036854775807 by omega))
                      have hovI : ¬ (1844674407370955161 : Int) < (dnN two i : Nat) := by omega
                      clear hst
                      generalize dnN two i = d at *
                      have hm : (d : Int) * 5 ≤ 9223372036854775807 := by omega
                      go_wp2_with fail
                      go_roundw
                      case rel => exact ⟨i + 1, by rw [HS.out.1]; first | rfl | go_num, by rw [HS.out.1]; exact HS.out.2, by go_num, by omega, trivial⟩
                      case measure => (simp [intOf] <;> omega)
                  · have hgeI : ¬ (two : Int) ≤ (i : Int) := by omega
                    rw [if_neg hge] at hst
                    by_cases hov : 4611686018427387903 < dnN two i
                    · have HN := Lib.hid (show F = none by
                        rw [HFX.out, ← dn_end]
                        exact fitE_den (by omega) (Nat.lt_of_lt_of_le (by omega) (dn_mono two (i + 1) (two + five) (by omega))))
                      have hovI : (4611686018427387903 : Int) < (dnN two i : Nat) := by omega
                      clear hst
                      generalize dnN two i = d at *
                      obtain ⟨r0, r1, r2, r3⟩ := TR1.out.two
                      go_wp2_with fail
                      exact bodyPost_ret (v := .tuple #[.agg #[.int .i64 0, .int .i64 0], errV 9]) (by simp [results, Tryz.results62, go_sem, r0, r1, errV]) rfl ⟨by rw [HN.out]; rfl, (HB1.out.setCell (by simp) _).setCell (by simp) _⟩
                    · have HS := Lib.hid (And.intro hst (show dnN two i * 2 ≤ 9223372036854775807 by omega))
                      have hovI : ¬ (4611686018427387903 : Int) < (dnN two i : Nat) := by omega
                      clear hst
                      generalize dnN two i = d at *
                      have hm : (d : Int) * 2 ≤ 9223372036854775807 := by omega
                      go_wp2_with fail
                      go_roundw
                      case rel => exact ⟨i + 1, by rw [HS.out.1]; first | rfl | go_num, by rw [HS.out.1]; exact HS.out.2, by go_num, by omega, trivial⟩
                      case measure => (simp [intOf] <;> omega)
                · obtain rfl : i = two + five := by omega
                  have HDE := Lib.hid (show dnN two (two + five) = 2 ^ two * 5 ^ five from dn_end two five)
                  have cf := fit_any neg X (dnN two (two + five)) (by omega) (by have := HD.out; omega)
                  rw [HDE.out, ← HFX.out, ← HDE.out, Nat.div_eq_of_lt (show X < 18446744073709551616 by omega), Nat.mod_eq_of_lt (show X < 18446744073709551616 by omega), Nat.div_eq_of_lt (show dnN two (two + five) < 18446744073709551616 by have := HD.out; omega), Nat.mod_eq_of_lt (show dnN two (two + five) < 18446744073709551616 by have := HD.out; omega)] at cf
                  clear HDE HD
                  generalize dnN two (two + five) = d at *
                  have cg : ∀ w : World, Calls Tryz.prog 21 #[.bool neg, .int .u64 0, .int .u64 (X : Nat), .int .u64 0, .int .u64 (d : Nat)] w fun e w' => e = .returned (ratV F) ∧ Below w.heap.size w w' := cf
                  clear cf HFX
                  go_wp2_with fail
                  with_reducible refine (cg _).mono ?_
                  rintro e w2 ⟨rfl, hb2⟩
                  clear cg
                  have TR2 := Lib.hid (TR1.out.keep hb2 (Nat.le_refl _))
                  have HB2 := Lib.hid (show Below w.heap.size w w2 from bstep HB1.out hb2 (Nat.le_refl _))
                  clear hb2
                  obtain ⟨r0, r1, r2, r3⟩ := TR2.out.two
                  rcases F with _ | ⟨x, y⟩
                  · simp only [ratV, errV]
                    go_wp2_with fail
                    exact bodyPost_ret (v := .tuple #[.agg #[.int .i64 0, .int .i64 0], errV 9]) (by simp [results, Tryz.results62, go_sem, r0, r1, errV]) rfl ⟨rfl, (HB2.out.setCell (by simp) _).setCell (by simp) _⟩
                  · simp only [ratV]
                    go_wp2_with fail
                    exact bodyPost_ret (v := .tuple #[.agg #[.int .i64 x, .int .i64 y], .nilIface]) (by simp [results, Tryz.results62, go_sem, r0, r1]) rfl ⟨rfl, (HB2.out.setCell (by simp) _).setCell (by simp) _⟩
            · obtain ⟨h0, h2⟩ := of_decide_eq_true hb.symm
              obtain ⟨t2, rfl⟩ : ∃ k, five = k + 1 := ⟨five - 1, by omega⟩
              have HNEXT := Lib.hid (fifth_inv HINV5.out h2)
              have HE2 : Hid (two = 0 ∨ X / 5 % 2 ≠ 0) := Lib.hid (by rcases HEND2.out with h | h; exact .inl h; right; omega)
              have cd2 := cd h2
              have hq : 0 < X / 5 := by omega
              have hq2 : X / 5 ≤ V := by omega
              clear cd hb
              generalize X / 5 = V2 at *
              have ht : ((t2 + 1 : Nat) : Int) - 1 = (t2 : Int) := by omega
              go_wp2_with fail
              with_reducible refine (cd2 _).mono ?_
              rintro e w1 ⟨rfl, rfl⟩
              clear cd2
              go_wp2_with fail
              go_roundw
              case rel => exact ⟨V2, t2, rfl, by first | rfl | go_num, by omega, hq, hq2, HNEXT.out, HE2.out, trivial⟩
              case measure => (simp [intOf] <;> omega)
      · obtain ⟨h0, h2⟩ := of_decide_eq_true hb.symm
        obtain ⟨t2, rfl⟩ : ∃ k, two = k + 1 := ⟨two - 1, by omega⟩
        have HNEXT := Lib.hid (half_inv HINV.out h2)
        have cd2 := cd h2
        have hq : 0 < V / 2 := by omega
        have hq2 : V / 2 ≤ v := by omega
        clear cd hb
        generalize V / 2 = V2 at *
        have ht : ((t2 + 1 : Nat) : Int) - 1 = (t2 : Int) := by omega
        go_wp2_with fail
        with_reducible refine (cd2 _).mono ?_
        rintro e w1 ⟨rfl, rfl⟩
        clear cd2
        go_wp2_with fail
        go_roundw
        case rel => exact ⟨V2, t2, rfl, by first | rfl | go_num, by omega, hq, hq2, HNEXT.out, trivial⟩
        case measure => simp [intOf]
end Go.Proofs.YtajebceanonalaaGreatDoor
