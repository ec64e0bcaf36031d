/-
  The reference of chapter 04: number, quoted, sign: contracts.
-/
import Derived.Test.YtmifjfohanegiaaDoorRlxA
import Derived.Deep.Cut
import Derived.Deep.DeepCutAuto
namespace Go.Proofs.YtmifjfohanegiaaDoor
set_option linter.unusedVariables false
open Go.RowKit Go.Shelf

theorem u8_eqT {c : UInt8} {k : Int} (hk : 0 ≤ k ∧ k < 256) (h : c = UInt8.ofNat k.toNat) : ((c.toNat : Int) == k) = true := by
  have := u8_eqB c k.toNat (by omega)
  rw [Int.toNat_of_nonneg hk.1] at this
  rw [this, decide_eq_true_eq]; exact h
theorem u8_eqF {c : UInt8} {k : Int} (hk : 0 ≤ k ∧ k < 256) (h : c ≠ UInt8.ofNat k.toNat) : ((c.toNat : Int) == k) = false := by
  have := u8_eqB c k.toNat (by omega)
  rw [Int.toNat_of_nonneg hk.1] at this
  rw [this, decide_eq_false_iff_not]; exact h
theorem u8_neT {c : UInt8} {k : Int} (hk : 0 ≤ k ∧ k < 256) (h : c = UInt8.ofNat k.toNat) : ((c.toNat : Int) != k) = false := by
  rw [bne, u8_eqT hk h]; rfl
theorem u8_neF {c : UInt8} {k : Int} (hk : 0 ≤ k ∧ k < 256) (h : c ≠ UInt8.ofNat k.toNat) : ((c.toNat : Int) != k) = true := by
  rw [bne, u8_eqF hk h]; rfl
theorem digits4_at (s : List UInt8) (x : Int) (i : Nat) (hx : x = (i : Nat)) (hs : s.length ≤ 1000000000) (hi : i ≤ s.length) (w : World) :
    Calls Tryd.prog 51 #[.string ⟨s.toArray⟩, .int .i64 x] w fun e w' => e = .returned (.int .i64 (i + (tw (s.drop i)).length : Nat)) ∧ w' = w := by
  rw [hx]; exact digits4_any s i hs hi w
theorem at4_at (s : List UInt8) (x : Int) (i : Nat) (hx : x = (i : Nat)) (hs : s.length ≤ 1000000000) (w : World) :
    Calls Tryd.prog 34 #[.string ⟨s.toArray⟩, .int .i64 x] w fun e w' => e = .returned (.int .u8 ((atB s i).toNat : Nat)) ∧ w' = w := by
  rw [hx]; exact at4_any s i hs w
theorem atB_pos {s : List UInt8} {i : Nat} (h : atB s i ≠ 0) : i < s.length := by
  rcases Nat.lt_or_ge i s.length with h1 | h1
  · exact h1
  · exact absurd (atB_end (by omega)) h

set_option maxRecDepth 100000 in
set_option maxHeartbeats 8000000 in
theorem number4_any (s : List UInt8) (i : Nat) (hs : s.length ≤ 1000000000) (hi : i < s.length) (h1 : tw (s.drop (i + sgnN (s.drop i))) ≠ []) (w : World) :
    Calls Tryd.prog 35 #[.string ⟨s.toArray⟩, .int .i64 (i : Nat)] w fun e w' => ∃ (K : Int) (b : Bool), e = .returned (.tuple #[.int .i64 K, .bool b]) ∧ w' = w ∧ (b = true → K = (numA s i : Nat) ∧ numA s i ≠ 0) ∧ (b = false → numA s i = 0) := by
  obtain ⟨V, hV⟩ : ∃ V, V = numA s i := ⟨_, rfl⟩
  rw [← hV]
  have hsg := sgn_at s i
  have cA := fun w => at4_any s i hs w
  obtain ⟨hg1, hg2⟩ := sgnN_le (s.drop i)
  rw [List.length_drop] at hg2
  obtain ⟨i1, hi1⟩ : ∃ i1, i1 = i + sgnN (s.drop i) := ⟨_, rfl⟩
  have hV1 : V = num1T s (i1 + (tw (s.drop i1)).length) := by rw [hV, hi1]; rfl
  rw [← hi1] at h1
  rw [hsg] at hi1
  have hi1b : i1 ≤ s.length := by rw [hi1]; split <;> omega
  have HV1 := Lib.hid hV1
  have HI1 := Lib.hid hi1
  have H1 := Lib.hid h1
  clear hV hsg hg1 hg2 hV1 hi1 h1
  generalize atB s i = c0 at *
  go_enter Tryd.func35, Tryd.ntmps35
  go_upto_region 1 with fail
  go_cut [18] (fun x ws => x = .bool (isSg c0) ∧ ws = w)
  case first =>
    by_cases e1 : c0 = 43
    · have HB := Lib.hid (show isSg c0 = true by rw [e1]; rfl)
      have g1 := u8_eqT (k := 43) (by decide) e1
      clear e1
      go_wp2_with fail
      with_reducible refine (cA _).mono ?_
      rintro e w ⟨rfl, rfl⟩
      go_wp2_with fail
      go_meet
      case rel => exact ⟨by rw [HB.out], rfl⟩
    · by_cases e2 : c0 = 45
      · have HB := Lib.hid (show isSg c0 = true by rw [e2]; rfl)
        have g1 := u8_eqF (k := 43) (by decide) e1
        have g2 := u8_eqT (k := 45) (by decide) e2
        clear e1 e2
        go_wp2_with fail
        with_reducible refine (cA _).mono ?_
        rintro e w ⟨rfl, rfl⟩
        go_wp2_with fail
        with_reducible refine (cA _).mono ?_
        rintro e w ⟨rfl, rfl⟩
        go_wp2_with fail
        go_meet
        case rel => exact ⟨by rw [HB.out], rfl⟩
      · have HB := Lib.hid (show isSg c0 = false by rw [Bool.eq_false_iff]; intro h; rcases (isSg_iff c0).1 h with h | h; exact e1 h; exact e2 h)
        have g1 := u8_eqF (k := 43) (by decide) e1
        have g2 := u8_eqF (k := 45) (by decide) e2
        clear e1 e2
        go_wp2_with fail
        with_reducible refine (cA _).mono ?_
        rintro e w ⟨rfl, rfl⟩
        go_wp2_with fail
        with_reducible refine (cA _).mono ?_
        rintro e w ⟨rfl, rfl⟩
        go_wp2_with fail
        go_meet
        case rel => exact ⟨by rw [HB.out], rfl⟩
  case rest =>
  obtain ⟨rfl, rfl⟩ := hcut
  generalize isSg c0 = b0 at *
  clear cA
  go_upto_if 18 with (fail)
  go_cut [1] (fun x ws => x = .int .i64 (i1 : Nat) ∧ ws = wc)
  case first =>
    cases b0
    · have HQ := Lib.hid (show i1 = i from HI1.out)
      clear HI1
      go_wp2_with fail
      go_meet
      case rel => exact ⟨by rw [HQ.out], rfl⟩
    · have HQ := Lib.hid (show (i1 : Int) = (i : Int) + 1 by have := HI1.out; simp at this; omega)
      clear HI1
      go_wp2_with fail
      go_meet
      case rel => exact ⟨by rw [HQ.out], rfl⟩
  case rest =>
  obtain ⟨rfl, rfl⟩ := hcut
  obtain ⟨w, hw⟩ : ∃ x, x = wc := ⟨_, rfl⟩
  subst hw
  clear HI1
  have cD := fun w => digits4_any s i1 hs hi1b w
  have hT1 := tw_lenA (s.drop i1)
  have hT2 : 0 < (tw (s.drop i1)).length := List.length_pos_iff.2 H1.out
  rw [List.length_drop] at hT1
  have hm1 := tw_max s i1
  obtain ⟨n1, hn1⟩ : ∃ n1, n1 = i1 + (tw (s.drop i1)).length := ⟨_, rfl⟩
  rw [← hn1] at cD HV1 hm1
  have hn1b : n1 ≤ s.length := by omega
  have hn1c : 1 ≤ n1 := by omega
  clear hn1 hT1 hT2 H1
  have cA := fun w => at4_any s n1 hs w
  have HM1 := Lib.hid (show ∀ m, m = n1 → dgU (atB s m).toNat = false from fun m e => by rw [e]; exact hm1)
  have hV := HV1.out
  rw [num1_at] at hV
  have HV := Lib.hid hV
  have hpos : atB s n1 = 46 → n1 < s.length := fun h => atB_pos (by rw [h]; decide)
  clear hV HV1 hm1
  generalize atB s n1 = c1 at *
  go_wp2_with fail
  with_reducible refine (cD _).mono ?_
  rintro e w ⟨rfl, rfl⟩
  go_wp2_with fail
  with_reducible refine (cA _).mono ?_
  rintro e w ⟨rfl, rfl⟩
  clear cA cD
  go_upto_if 27 with (fail)
  go_cut [1] (fun x ws => ∃ n : Nat, x = .int .i64 (n : Nat) ∧ n ≤ s.length ∧ 1 ≤ n ∧ V = num2T s n ∧ dgU (atB s n).toNat = false ∧ ws = w)
  case first =>
    have hV := HV.out
    by_cases e1 : c1 = 46
    · rw [if_pos e1] at hV
      have g1 := u8_eqT (k := 46) (by decide) e1
      have hlt := hpos e1
      have cD := fun w => digits4_at s ((n1 : Int) + 1) (n1 + 1) (by omega) hs hlt w
      have hT1 := tw_lenA (s.drop (n1 + 1))
      rw [List.length_drop] at hT1
      have hm1 := tw_max s (n1 + 1)
      rw [← Nat.add_assoc] at hV
      by_cases h0 : tw (s.drop (n1 + 1)) = []
      · rw [if_pos h0] at hV
        have HN := Lib.hid hV
        rw [h0] at cD
        have ge : ((n1 + 1 : Nat) : Int) == (n1 : Int) + 1 := by rw [beq_iff_eq]; omega
        clear HV hV hm1 hT1 h0 HM1 hpos e1
        go_wp2_with fail
        with_reducible refine (cD _).mono ?_
        rintro e w ⟨rfl, rfl⟩
        go_wp2_with fail
        go_ret2
        exact ⟨_, _, rfl, rfl, (fun h => by cases h), fun _ => HN.out⟩
      · rw [if_neg h0] at hV
        have hk : 0 < (tw (s.drop (n1 + 1))).length := List.length_pos_iff.2 h0
        generalize (tw (s.drop (n1 + 1))).length = k at *
        have HN := Lib.hid hV
        have HM := Lib.hid hm1
        have ge : (((n1 + 1 + k : Nat) : Int) == (n1 : Int) + 1) = false := by rw [beq_eq_false_iff_ne]; omega
        clear HV hV hm1 h0 HM1 hpos e1
        go_wp2_with fail
        with_reducible refine (cD _).mono ?_
        rintro e w ⟨rfl, rfl⟩
        go_wp2_with fail
        go_meet
        case rel => exact ⟨n1 + 1 + k, by first | rfl | go_num, by omega, by omega, HN.out, HM.out, rfl⟩
    · rw [if_neg e1] at hV
      have g1 := u8_eqF (k := 46) (by decide) e1
      have HN := Lib.hid hV
      clear HV hV hpos e1
      go_wp2_with fail
      go_meet
      case rel => exact ⟨n1, by first | rfl | go_num, hn1b, hn1c, HN.out, HM1.out _ rfl, rfl⟩
  case rest =>
  clear HV HM1 hn1b hn1c hpos
  obtain ⟨n2, rfl, hn2b, hn2c, hV, hm2, rfl⟩ := hcut
  obtain ⟨w, hw⟩ : ∃ x, x = wc := ⟨_, rfl⟩
  subst hw
  have cA := fun w => at4_any s n2 hs w
  have HM2 := Lib.hid (show ∀ m, m = n2 → dgU (atB s m).toNat = false from fun m e => by rw [e]; exact hm2)
  rw [num2_at] at hV
  have HV := Lib.hid hV
  have hpos : isEe (atB s n2) = true → n2 < s.length := fun h => atB_pos (by intro h2; rw [h2] at h; cases h)
  clear hV hm2
  generalize atB s n2 = c2 at *
  go_upto_region 9 with fail
  go_cut [46] (fun x ws => x = .bool (isEe c2) ∧ ws = w)
  case first =>
    clear hpos HM2 HV
    by_cases e1 : c2 = 101
    · have HB := Lib.hid (show isEe c2 = true by rw [e1]; rfl)
      have g1 := u8_eqT (k := 101) (by decide) e1
      clear e1
      go_wp2_with fail
      with_reducible refine (cA _).mono ?_
      rintro e w ⟨rfl, rfl⟩
      go_wp2_with fail
      go_meet
      case rel => exact ⟨by rw [HB.out], rfl⟩
    · by_cases e2 : c2 = 69
      · have HB := Lib.hid (show isEe c2 = true by rw [e2]; rfl)
        have g1 := u8_eqF (k := 101) (by decide) e1
        have g2 := u8_eqT (k := 69) (by decide) e2
        clear e1 e2
        go_wp2_with fail
        with_reducible refine (cA _).mono ?_
        rintro e w ⟨rfl, rfl⟩
        go_wp2_with fail
        with_reducible refine (cA _).mono ?_
        rintro e w ⟨rfl, rfl⟩
        go_wp2_with fail
        go_meet
        case rel => exact ⟨by rw [HB.out], rfl⟩
      · have HB := Lib.hid (show isEe c2 = false by rw [Bool.eq_false_iff]; intro h; rcases (isEe_iff c2).1 h with h | h; exact e1 h; exact e2 h)
        have g1 := u8_eqF (k := 101) (by decide) e1
        have g2 := u8_eqF (k := 69) (by decide) e2
        clear e1 e2
        go_wp2_with fail
        with_reducible refine (cA _).mono ?_
        rintro e w ⟨rfl, rfl⟩
        go_wp2_with fail
        with_reducible refine (cA _).mono ?_
        rintro e w ⟨rfl, rfl⟩
        go_wp2_with fail
        go_meet
        case rel => exact ⟨by rw [HB.out], rfl⟩
  case rest =>
  obtain ⟨rfl, rfl⟩ := hcut
  obtain ⟨w, hw⟩ : ∃ x, x = wc := ⟨_, rfl⟩
  subst hw
  generalize isEe c2 = b2 at *
  clear cA
  go_upto_if 46 with (fail)
  go_cut [1] (fun x ws => ∃ n : Nat, x = .int .i64 (n : Nat) ∧ n ≤ s.length ∧ 1 ≤ n ∧ V = num3T s n ∧ dgU (atB s n).toNat = false ∧ ws = w)
  case first =>
    have hV := HV.out
    cases b2
    · rw [if_neg (by simp)] at hV
      have HN := Lib.hid hV
      clear HV hV hpos
      go_wp2_with fail
      go_meet
      case rel => exact ⟨n2, by first | rfl | go_num, hn2b, hn2c, HN.out, HM2.out _ rfl, rfl⟩
    · rw [if_pos rfl] at hV
      have hlt := hpos rfl
      have hsg := sgn_at s (n2 + 1)
      obtain ⟨hg1, hg2⟩ := sgnN_le (s.drop (n2 + 1))
      rw [List.length_drop] at hg2
      obtain ⟨i3, hi3⟩ : ∃ i3, i3 = n2 + 1 + sgnN (s.drop (n2 + 1)) := ⟨_, rfl⟩
      rw [← hi3] at hV
      have hi3b : i3 ≤ s.length := by omega
      rw [hsg] at hi3
      have cA := fun w => at4_at s ((n2 : Int) + 1) (n2 + 1) (by omega) hs w
      have HN := Lib.hid hV
      have HI3 := Lib.hid hi3
      clear HV hV hpos hsg hg1 hg2 hi3 HM2
      generalize atB s (n2 + 1) = c3 at *
      go_upto_region 11 with fail
      go_cut [58] (fun x ws => x = .bool (isSg c3) ∧ ws = w)
      case first =>
        by_cases e1 : c3 = 43
        · have HB := Lib.hid (show isSg c3 = true by rw [e1]; rfl)
          have g1 := u8_eqT (k := 43) (by decide) e1
          clear e1
          go_wp2_with fail
          with_reducible refine (cA _).mono ?_
          rintro e w ⟨rfl, rfl⟩
          go_wp2_with fail
          go_meet
          case rel => exact ⟨by rw [HB.out], rfl⟩
        · by_cases e2 : c3 = 45
          · have HB := Lib.hid (show isSg c3 = true by rw [e2]; rfl)
            have g1 := u8_eqF (k := 43) (by decide) e1
            have g2 := u8_eqT (k := 45) (by decide) e2
            clear e1 e2
            go_wp2_with fail
            with_reducible refine (cA _).mono ?_
            rintro e w ⟨rfl, rfl⟩
            go_wp2_with fail
            with_reducible refine (cA _).mono ?_
            rintro e w ⟨rfl, rfl⟩
            go_wp2_with fail
            go_meet
            case rel => exact ⟨by rw [HB.out], rfl⟩
          · have HB := Lib.hid (show isSg c3 = false by rw [Bool.eq_false_iff]; intro h; rcases (isSg_iff c3).1 h with h | h; exact e1 h; exact e2 h)
            have g1 := u8_eqF (k := 43) (by decide) e1
            have g2 := u8_eqF (k := 45) (by decide) e2
            clear e1 e2
            go_wp2_with fail
            with_reducible refine (cA _).mono ?_
            rintro e w ⟨rfl, rfl⟩
            go_wp2_with fail
            with_reducible refine (cA _).mono ?_
            rintro e w ⟨rfl, rfl⟩
            go_wp2_with fail
            go_meet
            case rel => exact ⟨by rw [HB.out], rfl⟩
      case rest =>
      obtain ⟨rfl, rfl⟩ := hcut
      obtain ⟨w, hw⟩ : ∃ x, x = wc := ⟨_, rfl⟩
      subst hw
      generalize isSg c3 = b3 at *
      clear cA
      go_upto_if 58 with (fail)
      go_cut [1] (fun x ws => x = .int .i64 (i3 : Nat) ∧ ws = w)
      case first =>
        cases b3
        · have HQ := Lib.hid (show (i3 : Int) = (n2 : Int) + 1 by have := HI3.out; simp at this; omega)
          clear HI3
          go_wp2_with fail
          go_meet
          case rel => exact ⟨by rw [HQ.out], rfl⟩
        · have HQ := Lib.hid (show (i3 : Int) = (n2 : Int) + 1 + 1 by have := HI3.out; simp at this; omega)
          clear HI3
          go_wp2_with fail
          go_meet
          case rel => exact ⟨by rw [HQ.out], rfl⟩
      case rest =>
      obtain ⟨rfl, rfl⟩ := hcut
      obtain ⟨w, hw⟩ : ∃ x, x = wc := ⟨_, rfl⟩
      subst hw
      clear HI3
      have cD := fun w => digits4_any s i3 hs hi3b w
      have hT1 := tw_lenA (s.drop i3)
      rw [List.length_drop] at hT1
      have hm3 := tw_max s i3
      have hV := HN.out
      clear HN
      by_cases h0 : tw (s.drop i3) = []
      · rw [if_pos h0] at hV
        have HN := Lib.hid hV
        rw [h0] at cD
        have ge : ((i3 : Int) == (i3 : Int)) = true := by rw [beq_iff_eq]
        clear hV hm3 hT1 h0
        go_wp2_with fail
        with_reducible refine (cD _).mono ?_
        rintro e w ⟨rfl, rfl⟩
        go_wp2_with fail
        go_ret2
        exact ⟨_, _, rfl, rfl, (fun h => by cases h), fun _ => HN.out⟩
      · rw [if_neg h0] at hV
        have hk : 0 < (tw (s.drop i3)).length := List.length_pos_iff.2 h0
        generalize (tw (s.drop i3)).length = k at *
        have HN := Lib.hid hV
        have HM := Lib.hid hm3
        have ge : (((i3 + k : Nat) : Int) == (i3 : Int)) = false := by rw [beq_eq_false_iff_ne]; omega
        clear hV hm3 h0
        go_wp2_with fail
        with_reducible refine (cD _).mono ?_
        rintro e w ⟨rfl, rfl⟩
        go_wp2_with fail
        go_meet
        case rel => exact ⟨i3 + k, by first | rfl | go_num, by omega, by omega, HN.out, HM.out, rfl⟩
  case rest =>
  clear HV HM2 hn2b hn2c hpos
  obtain ⟨n3, rfl, hn3b, hn3c, hV, hm3, rfl⟩ := hcut
  obtain ⟨w, hw⟩ : ∃ x, x = wc := ⟨_, rfl⟩
  subst hw
  have cA := fun w => at4_any s n3 hs w
  rw [num3_at] at hV
  generalize atB s n3 = c4 at *
  have cl := fun w => letter4_any c4.toNat w
  have cd := fun w => digit4_any c4.toNat w
  rw [hm3] at cd
  cases hl : ltU c4.toNat
  · rw [hl] at cl
    by_cases e1 : c4 = 46
    · have HN := Lib.hid (show V = 0 by rw [hV, if_pos]; rw [e1]; rfl)
      have g1 := u8_neT (k := 46) (by decide) e1
      clear hV hl e1 hm3
      go_wp2_with fail
      with_reducible refine (cA _).mono ?_
      rintro e w ⟨rfl, rfl⟩
      go_wp2_with fail
      with_reducible refine (cl _).mono ?_
      rintro e w ⟨rfl, rfl⟩
      go_wp2_with fail
      with_reducible refine (cd _).mono ?_
      rintro e w ⟨rfl, rfl⟩
      go_wp2_with fail
      go_ret2
      exact ⟨_, _, rfl, rfl, (fun h => by cases h), fun _ => HN.out⟩
    · have HN := Lib.hid (show V = n3 by
        rw [hV, if_neg]; unfold stopN; rw [hl, Bool.false_or, beq_iff_eq]; exact e1)
      have g1 := u8_neF (k := 46) (by decide) e1
      clear hV hl e1 hm3
      go_wp2_with fail
      with_reducible refine (cA _).mono ?_
      rintro e w ⟨rfl, rfl⟩
      go_wp2_with fail
      with_reducible refine (cl _).mono ?_
      rintro e w ⟨rfl, rfl⟩
      go_wp2_with fail
      with_reducible refine (cd _).mono ?_
      rintro e w ⟨rfl, rfl⟩
      go_wp2_with fail
      go_ret2
      exact ⟨_, _, rfl, rfl, fun _ => ⟨by rw [HN.out], by rw [HN.out]; omega⟩, fun h => by cases h⟩
  · rw [hl] at cl
    have HN := Lib.hid (show V = 0 by rw [hV, if_pos]; unfold stopN; rw [hl]; rfl)
    clear hV hl hm3
    go_wp2_with fail
    with_reducible refine (cA _).mono ?_
    rintro e w ⟨rfl, rfl⟩
    go_wp2_with fail
    with_reducible refine (cl _).mono ?_
    rintro e w ⟨rfl, rfl⟩
    go_wp2_with fail
    go_ret2
    exact ⟨_, _, rfl, rfl, (fun h => by cases h), fun _ => HN.out⟩
end Go.Proofs.YtmifjfohanegiaaDoor
