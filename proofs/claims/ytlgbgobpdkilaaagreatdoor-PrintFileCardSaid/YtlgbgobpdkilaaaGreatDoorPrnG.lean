/-
  Layer 7: print.role: contract.
-/
import Derived.Test.YtlgbgobpdkilaaaGreatDoorPrnB
import Derived.Test.YtlgbgobpdkilaaaGreatDoorTxtB
import Derived.Test.YtlgbgobpdkilaaaGreatDoorParR
import Derived.Test.YtlgbgobpdkilaaaGreatDoorTxtP
import Derived.Lib.SmallJoins

namespace Go.Proofs.YtlgbgobpdkilaaaGreatDoor
set_option linter.unusedVariables false
open Go.RowKit Go.Shelf

set_option maxRecDepth 100000 in
set_option maxHeartbeats 2000000 in
theorem digits7_any (u : Nat) (hu : u < 18446744073709551616) (w : World) :
    Calls Tryz.prog 103 #[.int .u64 u] w fun e w' => e = .returned (.string ⟨(Lib.decDigits u).toArray⟩) ∧ Below w.heap.size w w' := by
  go_enter Tryz.func103, Tryz.ntmps103
  go_wp2_with fail
  go_loopw [0, 3, 4] (fun vn vs vi wr => ∃ i : Nat, vi = .int .i64 (i : Nat) ∧ vs = .string ⟨(padD i u).toArray⟩ ∧ vn = .int .u64 (u / 10 ^ i : Nat) ∧ i ≤ 20 ∧ (i ≤ 1 ∨ 10 ^ (i - 1) ≤ u) ∧ Below w.heap.size w wr) (fun _ _ vi _ => 20 - (intOf vi).toNat)
  case atStart => exact ⟨0, rfl, rfl, by simp, by omega, .inl (by omega), Below.refl _ _⟩
  case round =>
    obtain ⟨i, rfl, rfl, rfl, hi, hprev, hb⟩ := hrel
    have HPAD := Lib.hid (show padD (i + 1) u = dgt (u / 10 ^ i) :: padD i u from rfl)
    have HDIV := Lib.hid (show u / 10 ^ i / 10 = u / 10 ^ (i + 1) by rw [Nat.div_div_eq_div_mul, Nat.pow_succ])
    have HL : u / 10 ^ i ≤ 18446744073709551615 := Nat.le_trans (Nat.div_le_self _ _) (by omega)
    have hpl : (padD i u).length = i := padD_len _ _
    have HE := Lib.hid (show u / 10 ^ i = 0 → i ≠ 0 → padD i u = Lib.decDigits u from fun g hi0 => by
      obtain ⟨j, rfl⟩ : ∃ j, i = j + 1 := ⟨i - 1, by omega⟩
      refine (dec_pad j u ?_ ?_).symm
      · rcases Nat.lt_or_ge u (10 ^ (j + 1)) with h2 | h2
        · exact h2
        · have := Nat.div_pos h2 (Nat.pow_pos (by decide)); omega
      · rcases hprev with h | h
        · exact .inl (by omega)
        · exact .inr (by simpa using h))
    have HZ := Lib.hid (show i = 20 → u / 10 ^ i = 0 from fun g => by subst g; exact Nat.div_eq_of_lt (by omega))
    have HNX := Lib.hid (show u / 10 ^ i ≠ 0 → 10 ^ i ≤ u from fun g => by
      rcases Nat.lt_or_ge u (10 ^ i) with h2 | h2
      · exact absurd (Nat.div_eq_of_lt h2) g
      · exact h2)
    clear hprev
    generalize hN : u / 10 ^ i = N at *
    have HN := Lib.hid hN
    clear hN
    by_cases hgo : N = 0 ∧ i ≠ 0
    · obtain ⟨rfl, hi0⟩ := hgo
      have hz : ((i : Int) == 0) = false := by rw [beq_eq_false_iff_ne]; omega
      have hE := HE.out rfl hi0
      rw [hE]
      by_cases hlt : (i : Int) < 20
      · go_wp2_with fail
        go_ret
        exact ⟨rfl, hb⟩
      · go_wp2_with fail
        go_ret
        exact ⟨rfl, hb⟩
    · have hlt : (i : Int) < 20 := by
        by_cases g : i = 20
        · exact absurd ⟨HZ.out g, by omega⟩ hgo
        · omega
      have HG := Lib.hid (show i + 1 ≤ 1 ∨ 10 ^ (i + 1 - 1) ≤ u by
        by_cases g : i = 0
        · exact .inl (by omega)
        · exact .inr (HNX.out (fun h => hgo ⟨h, g⟩)))
      have hd : N % 10 < 10 := Nat.mod_lt _ (by decide)
      have hdg : (48 : Int) + (N : Int) % 10 = (((dgt N).toNat : Nat) : Int) := by
        unfold dgt
        simp
        omega
      clear HNX HZ HE
      have hor : i = 0 ∨ (0 : Int) < N := by
        by_cases g : i = 0
        · exact .inl g
        · exact .inr (by have : N ≠ 0 := fun h => hgo ⟨h, g⟩; omega)
      clear hgo
      obtain ⟨cb, hcb⟩ : ∃ c, c = dgt N := ⟨_, rfl⟩
      rw [← hcb] at hdg
      have hcv := conv_one wr cb
      have hst := str_cons cb (padD i u)
      have HPD := Lib.hid (show padD (i + 1) u = cb :: padD i u by rw [HPAD.out, hcb])
      have HBE := Lib.hid (bstep hb ((Below.refl wr.heap.size wr).alloc (Nat.le_refl _) (.cells #[.int .u8 cb.toNat] 5)) (Nat.le_refl _))
      have HQ := Lib.hid (show ((N / 10 : Nat) : Int) = ((u / 10 ^ (i + 1) : Nat) : Int) by rw [HDIV.out])
      rw [← hdg] at hcv HBE
      clear hcb HPAD HDIV hdg
      rcases hor with rfl | hor
      · go_wp2_with fail
        go_roundw
        case rel => exact ⟨0 + 1, by go_num, by rw [HPD.out], by rw [← HQ.out] <;> rfl, by omega, HG.out, HBE.out⟩
        case measure => simp [intOf]
      · have hz : i = 0 ∨ ((i : Int) == 0) = false := by
          by_cases g : i = 0
          · exact .inl g
          · exact .inr (by rw [beq_eq_false_iff_ne]; omega)
        rcases hz with rfl | hz
        · go_wp2_with fail
          go_roundw
          case rel => exact ⟨0 + 1, by go_num, by rw [HPD.out], by rw [← HQ.out] <;> rfl, by omega, HG.out, HBE.out⟩
          case measure => simp [intOf]
        · go_wp2_with fail
          go_roundw
          case rel => exact ⟨i + 1, by go_num, by rw [HPD.out], by rw [← HQ.out] <;> rfl, by omega, HG.out, HBE.out⟩
          case measure => simp [intOf]; omega
end Go.Proofs.YtlgbgobpdkilaaaGreatDoor

namespace Go.Proofs.YtlgbgobpdkilaaaGreatDoor
set_option linter.unusedVariables false
open Go.RowKit Go.Shelf

set_option maxHeartbeats 1000000 in
theorem whole7_any (n : Int) (hn : -9223372036854775808 ≤ n ∧ n ≤ 9223372036854775807) (w : World) :
    Calls Tryz.prog 73 #[.int .i64 n] w fun e w' => e = .returned (.string ⟨(Lib.itoa n).toArray⟩) ∧ Below w.heap.size w w' := by
  rcases (show n < 0 ∨ 0 ≤ n by omega) with h | h
  · obtain ⟨u, hu0, rfl⟩ : ∃ u : Nat, 1 ≤ u ∧ n = -(u : Int) := ⟨n.natAbs, by omega, by omega⟩
    have hw1 : IntKind.u64.wrap (-(u : Int)) = 18446744073709551616 - (u : Int) := by
      unfold IntKind.wrap; simp [IntKind.bits, IntKind.signed]; omega
    have hw2 : IntKind.u64.wrap (-(18446744073709551616 - (u : Int))) = u := by
      unfold IntKind.wrap; simp [IntKind.bits, IntKind.signed]; omega
    have c := digits7_any u (by omega) w
    have HI := Lib.hid (Lib.itoa_neg u hu0)
    have hst : (⟨#[45]⟩ : ByteArray) ++ ⟨(Lib.decDigits u).toArray⟩ = ⟨(45 :: Lib.decDigits u).toArray⟩ := strA [45] _
    have hl : (Lib.decDigits u).length ≤ 20 := dec_len64 (by omega)
    generalize Lib.itoa (-(u : Int)) = I at *
    generalize Lib.decDigits u = D at *
    go_enter Tryz.func73, Tryz.ntmps73
    go_wp2_with fail
    with_reducible refine c.mono ?_
    rintro e w1 ⟨rfl, hb⟩
    go_wp2_with fail
    go_ret
    exact ⟨by rw [HI.out] <;> rfl, hb⟩
  · obtain ⟨u, rfl⟩ : ∃ u : Nat, n = (u : Int) := ⟨n.toNat, by omega⟩
    have c := digits7_any u (by omega) w
    rw [Lib.itoa_nonneg u]
    generalize Lib.decDigits u = D at *
    go_enter Tryz.func73, Tryz.ntmps73
    go_wp2_with fail
    with_reducible refine c.mono ?_
    rintro e w1 ⟨rfl, hb⟩
    go_wp2_with fail
    go_ret
    exact ⟨rfl, hb⟩
end Go.Proofs.YtlgbgobpdkilaaaGreatDoor

namespace Go.Proofs.YtlgbgobpdkilaaaGreatDoor
set_option linter.unusedVariables false
open Go.RowKit Go.Shelf

set_option maxRecDepth 100000 in
set_option maxHeartbeats 4000000 in
theorem rname_any (s : List UInt8) (hs : s.length ≤ 9223372036854775807) (w : World) :
    Calls Tryz.prog 102 #[.string ⟨s.toArray⟩] w fun e w' => e = .returned (.bool (nameB s)) ∧ w' = w := by
  obtain ⟨T, hT⟩ : ∃ T, T = nameB s := ⟨_, rfl⟩
  rw [← hT]
  unfold nameB at hT
  by_cases h1 : (s.length : Int) < 1
  · have HT := Lib.hid (show T = false by rw [hT, decide_eq_false (show ¬ 0 < s.length by omega)]; simp)
    clear hT
    go_enter Tryz.func102, Tryz.ntmps102
    go_wp2_with fail
    go_ret
    exact ⟨by rw [HT.out] <;> rfl, rfl⟩
  by_cases h2 : (64 : Int) < s.length
  · have HT := Lib.hid (show T = false by rw [hT, decide_eq_false (show ¬ s.length ≤ 64 by omega)]; simp)
    clear hT
    go_enter Tryz.func102, Tryz.ntmps102
    go_wp2_with fail
    go_ret
    exact ⟨by rw [HT.out] <;> rfl, rfl⟩
  have HT := Lib.hid (show T = allN 0 s by rw [hT, decide_eq_true (show 0 < s.length by omega), decide_eq_true (show s.length ≤ 64 by omega)]; simp)
  clear hT
  go_enter Tryz.func102, Tryz.ntmps102
  go_wp2_with fail
  go_loopw [3] (fun vi wr => ∃ k : Nat, k ≤ s.length ∧ vi = .int .i64 (k : Nat) ∧ T = allN k (s.drop k) ∧ wr = w) (fun vi _ => s.length - (intOf vi).toNat)
  case atStart => exact ⟨0, Nat.zero_le _, rfl, by rw [HT.out]; simp, rfl⟩
  case round =>
    clear HT
    obtain ⟨k, hk, rfl, hTk, rfl⟩ := hrel
    by_cases hlt : k < s.length
    · rw [List.drop_eq_getElem_cons hlt] at hTk
      have hT2 : T = (okN k s[k] && allN (k + 1) (s.drop (k + 1))) := hTk
      clear hTk
      have hlt' : k < (⟨s.toArray⟩ : ByteArray).size := hlt
      have hget : (⟨s.toArray⟩ : ByteArray)[k]'hlt' = s[k] := rfl
      generalize s[k] = c at *
      have HL := Lib.hid (ltU_iff c.toNat)
      have HD := Lib.hid (dgU_iff c.toNat)
      have hr : (97 ≤ c.toNat ∧ c.toNat ≤ 122) ∨ (65 ≤ c.toNat ∧ c.toNat ≤ 90) ∨ c.toNat = 95 ∨ (48 ≤ c.toNat ∧ c.toNat ≤ 57) ∨ c.toNat < 48 ∨ (58 ≤ c.toNat ∧ c.toNat ≤ 64) ∨ (91 ≤ c.toNat ∧ c.toNat ≤ 96 ∧ c.toNat ≠ 95) ∨ 123 ≤ c.toNat := by omega
      rcases hr with hr | hr | hr | hr | hr | hr | hr | hr
      · have f97 : (97 : Int) ≤ c.toNat := by omega
        have f122 : (c.toNat : Int) ≤ 122 := by omega
        have HTK := Lib.hid (show T = allN (k + 1) (s.drop (k + 1)) by rw [hT2]; have : ltU c.toNat = true := HL.out.2 (by omega); unfold okN; rw [this]; simp)
        clear hT2 hr
        go_wp2_with fail
        go_roundw
        case rel => exact ⟨k + 1, by omega, by go_num, HTK.out, by trivial⟩
        case measure => simp [intOf]; omega
      · have f97 : ¬ (97 : Int) ≤ c.toNat := by omega
        have f65 : (65 : Int) ≤ c.toNat := by omega
        have f90 : (c.toNat : Int) ≤ 90 := by omega
        have HTK := Lib.hid (show T = allN (k + 1) (s.drop (k + 1)) by rw [hT2]; have : ltU c.toNat = true := HL.out.2 (by omega); unfold okN; rw [this]; simp)
        clear hT2 hr
        go_wp2_with fail
        go_roundw
        case rel => exact ⟨k + 1, by omega, by go_num, HTK.out, by trivial⟩
        case measure => simp [intOf]; omega
      · have f97 : ¬ (97 : Int) ≤ c.toNat := by omega
        have f65 : (65 : Int) ≤ c.toNat := by omega
        have f90 : ¬ (c.toNat : Int) ≤ 90 := by omega
        have f95 : (c.toNat : Int) = 95 := by omega
        have HTK := Lib.hid (show T = allN (k + 1) (s.drop (k + 1)) by rw [hT2]; have : ltU c.toNat = true := HL.out.2 (by omega); unfold okN; rw [this]; simp)
        clear hT2 hr
        go_wp2_with fail
        go_roundw
        case rel => exact ⟨k + 1, by omega, by go_num, HTK.out, by trivial⟩
        case measure => simp [intOf]; omega
      · have f97 : ¬ (97 : Int) ≤ c.toNat := by omega
        have f65 : ¬ (65 : Int) ≤ c.toNat := by omega
        have f95 : ((c.toNat : Int) == 95) = false := by rw [beq_eq_false_iff_ne]; omega
        have f48 : ¬ (c.toNat : Int) < 48 := by omega
        have f57 : ¬ (57 : Int) < c.toNat := by omega
        have hl : ltU c.toNat = false := by rw [Bool.eq_false_iff]; intro h; have := HL.out.1 h; omega
        have hd : dgU c.toNat = true := HD.out.2 (by omega)
        by_cases h0 : k = 0
        · have HTK := Lib.hid (show T = false by rw [hT2]; unfold okN; rw [hl, h0]; rfl)
          subst h0
          clear hT2 hr hl hd
          go_wp2_with fail
          go_ret
          exact ⟨by rw [HTK.out] <;> rfl, rfl⟩
        · have HTK := Lib.hid (show T = allN (k + 1) (s.drop (k + 1)) by rw [hT2]; unfold okN; rw [hl, hd]; simp [h0])
          have hk0 : ((k : Int) == 0) = false := by rw [beq_eq_false_iff_ne]; omega
          clear hT2 hr hl hd
          go_wp2_with fail
          go_roundw
          case rel => exact ⟨k + 1, by omega, by go_num, HTK.out, by trivial⟩
          case measure => simp [intOf]; omega
      · have f97 : ¬ (97 : Int) ≤ c.toNat := by omega
        have f65 : ¬ (65 : Int) ≤ c.toNat := by omega
        have f95 : ((c.toNat : Int) == 95) = false := by rw [beq_eq_false_iff_ne]; omega
        have f48 : (c.toNat : Int) < 48 := by omega
        have HTK := Lib.hid (show T = false by
          rw [hT2]
          have hl : ltU c.toNat = false := by rw [Bool.eq_false_iff]; intro h; have := HL.out.1 h; omega
          have hd : dgU c.toNat = false := by rw [Bool.eq_false_iff]; intro h; have := HD.out.1 h; omega
          unfold okN; rw [hl, hd]; simp)
        clear hT2 hr
        by_cases h0 : k = 0
        · subst h0
          go_wp2_with fail
          go_ret
          exact ⟨by rw [HTK.out] <;> rfl, rfl⟩
        · have hk0 : ((k : Int) == 0) = false := by rw [beq_eq_false_iff_ne]; omega
          go_wp2_with fail
          go_ret
          exact ⟨by rw [HTK.out] <;> rfl, rfl⟩
      · have f97 : ¬ (97 : Int) ≤ c.toNat := by omega
        have f65 : ¬ (65 : Int) ≤ c.toNat := by omega
        have f95 : ((c.toNat : Int) == 95) = false := by rw [beq_eq_false_iff_ne]; omega
        have f48 : ¬ (c.toNat : Int) < 48 := by omega
        have f57 : (57 : Int) < c.toNat := by omega
        have HTK := Lib.hid (show T = false by
          rw [hT2]
          have hl : ltU c.toNat = false := by rw [Bool.eq_false_iff]; intro h; have := HL.out.1 h; omega
          have hd : dgU c.toNat = false := by rw [Bool.eq_false_iff]; intro h; have := HD.out.1 h; omega
          unfold okN; rw [hl, hd]; simp)
        clear hT2 hr
        by_cases h0 : k = 0
        · subst h0
          go_wp2_with fail
          go_ret
          exact ⟨by rw [HTK.out] <;> rfl, rfl⟩
        · have hk0 : ((k : Int) == 0) = false := by rw [beq_eq_false_iff_ne]; omega
          go_wp2_with fail
          go_ret
          exact ⟨by rw [HTK.out] <;> rfl, rfl⟩
      · have f97 : ¬ (97 : Int) ≤ c.toNat := by omega
        have f65 : (65 : Int) ≤ c.toNat := by omega
        have f90 : ¬ (c.toNat : Int) ≤ 90 := by omega
        have f95 : ((c.toNat : Int) == 95) = false := by rw [beq_eq_false_iff_ne]; omega
        have f48 : ¬ (c.toNat : Int) < 48 := by omega
        have f57 : (57 : Int) < c.toNat := by omega
        have HTK := Lib.hid (show T = false by
          rw [hT2]
          have hl : ltU c.toNat = false := by rw [Bool.eq_false_iff]; intro h; have := HL.out.1 h; omega
          have hd : dgU c.toNat = false := by rw [Bool.eq_false_iff]; intro h; have := HD.out.1 h; omega
          unfold okN; rw [hl, hd]; simp)
        clear hT2 hr
        by_cases h0 : k = 0
        · subst h0
          go_wp2_with fail
          go_ret
          exact ⟨by rw [HTK.out] <;> rfl, rfl⟩
        · have hk0 : ((k : Int) == 0) = false := by rw [beq_eq_false_iff_ne]; omega
          go_wp2_with fail
          go_ret
          exact ⟨by rw [HTK.out] <;> rfl, rfl⟩
      · have f97 : (97 : Int) ≤ c.toNat := by omega
        have f122 : ¬ (c.toNat : Int) ≤ 122 := by omega
        have f65 : (65 : Int) ≤ c.toNat := by omega
        have f90 : ¬ (c.toNat : Int) ≤ 90 := by omega
        have f95 : ((c.toNat : Int) == 95) = false := by rw [beq_eq_false_iff_ne]; omega
        have f48 : ¬ (c.toNat : Int) < 48 := by omega
        have f57 : (57 : Int) < c.toNat := by omega
        have HTK := Lib.hid (show T = false by
          rw [hT2]
          have hl : ltU c.toNat = false := by rw [Bool.eq_false_iff]; intro h; have := HL.out.1 h; omega
          have hd : dgU c.toNat = false := by rw [Bool.eq_false_iff]; intro h; have := HD.out.1 h; omega
          unfold okN; rw [hl, hd]; simp)
        clear hT2 hr
        by_cases h0 : k = 0
        · subst h0
          go_wp2_with fail
          go_ret
          exact ⟨by rw [HTK.out] <;> rfl, rfl⟩
        · have hk0 : ((k : Int) == 0) = false := by rw [beq_eq_false_iff_ne]; omega
          go_wp2_with fail
          go_ret
          exact ⟨by rw [HTK.out] <;> rfl, rfl⟩
    · obtain rfl : k = s.length := by omega
      have HTK := Lib.hid (show T = true by rw [hTk, List.drop_length]; rfl)
      clear hTk
      go_wp2_with fail
      go_ret
      exact ⟨by rw [HTK.out] <;> rfl, rfl⟩

set_option maxHeartbeats 1000000 in
theorem rword_any (s : List UInt8) (hs : s.length ≤ 9223372036854775807) (w : World) :
    Calls Tryz.prog 70 #[.string ⟨s.toArray⟩] w fun e w' => e = .returned (.bool (wordB s)) ∧ w' = w := by
  have c := rname_any s hs w
  by_cases hk : s ∈ keyL
  · have HW := Lib.hid (show wordB s = false by unfold wordB; rw [decide_eq_true hk]; simp)
    simp only [keyL, List.mem_cons, List.not_mem_nil, or_false] at hk
    rcases hk with rfl | rfl | rfl | rfl | rfl | rfl <;>
    · rw [show nameB _ = true by decide] at c
      go_enter Tryz.func70, Tryz.ntmps70
      go_wp2_with fail
      with_reducible refine c.mono ?_
      rintro e w1 ⟨rfl, rfl⟩
      go_wp2_with fail
      go_ret
      exact ⟨by rw [HW.out] <;> rfl, rfl⟩
  · have HW := Lib.hid (show wordB s = nameB s by unfold wordB; rw [decide_eq_false hk]; simp)
    have hne : ∀ t ∈ keyL, (s == t) = false := by
      intro t ht
      rw [beq_eq_false_iff_ne]
      intro e
      exact hk (e ▸ ht)
    have h1 := hne [86, 69, 82, 83, 73, 79, 78] (by decide)
    have h2 := hne [66, 85, 95] (by decide)
    have h3 := hne [66, 79, 95] (by decide)
    have h4 := hne [83, 71, 95] (by decide)
    have h5 := hne [86, 65, 76, 95] (by decide)
    have h6 := hne [67, 77, 95] (by decide)
    clear hne
    generalize nameB s = T at *
    cases T <;>
    · go_enter Tryz.func70, Tryz.ntmps70
      go_wp2_with fail
      with_reducible refine c.mono ?_
      rintro e w1 ⟨rfl, rfl⟩
      go_wp2_with fail
      go_ret
      exact ⟨by rw [HW.out] <;> rfl, rfl⟩
end Go.Proofs.YtlgbgobpdkilaaaGreatDoor

namespace Go.Proofs.YtlgbgobpdkilaaaGreatDoor
set_option linter.unusedVariables false
open Go.RowKit Go.Shelf

/-- what a signal holds, its list of receivers apart -/
structure SigD where
  line : Int
  col : Int
  name : List UInt8
  role : Int
  branch : Nat
  start : Int
  size : Int
  moto : Bool
  signed : Bool
  sn : Int
  sd : Int
  on : Int
  od : Int
  mn : Int
  md : Int
  xn : Int
  xd : Int
  unit : List UInt8
def SigD.agg (d : SigD) (tv : Value) : Value := .agg #[.int .i64 d.line, .int .i64 d.col, .string ⟨d.name.toArray⟩, .int .i64 d.role, .int .u64 (d.branch : Nat), .int .i64 d.start, .int .i64 d.size, .bool d.moto, .bool d.signed, .int .i64 d.sn, .int .i64 d.sd, .int .i64 d.on, .int .i64 d.od, .int .i64 d.mn, .int .i64 d.md, .int .i64 d.xn, .int .i64 d.xd, .string ⟨d.unit.toArray⟩, tv]

def ordL (m s : Bool) : List UInt8 := [64, if m then 48 else 49, if s then 45 else 43]

set_option maxHeartbeats 2000000 in
theorem rorder_any (d : SigD) (tv : Value) (w : World) :
    Calls Tryz.prog 106 #[d.agg tv] w fun e w' => e = .returned (.string ⟨(ordL d.moto d.signed).toArray⟩) ∧ Below w.heap.size w w' := by
  obtain ⟨v0, v1, v2, v3, v4, v5, v6, m, s, v9, v10, v11, v12, v13, v14, v15, v16, v17⟩ := d
  unfold SigD.agg
  have HB := Lib.hid (fun o => (Below.refl w.heap.size w).alloc (Nat.le_refl _) o)
  cases m <;> cases s <;>
  · go_enter Tryz.func106, Tryz.ntmps106
    go_wp2_with fail
    go_ret
    exact ⟨rfl, HB.out _⟩

def rolL (r : Int) (b : Nat) : List UInt8 := if r = 1 then [32, 77] else if r = 2 then 32 :: 109 :: Lib.decDigits b else []

set_option maxHeartbeats 2000000 in
theorem rrole_any (d : SigD) (tv : Value) (hb : d.branch < 18446744073709551616) (w : World) :
    Calls Tryz.prog 105 #[d.agg tv] w fun e w' => e = .returned (.string ⟨(rolL d.role d.branch).toArray⟩) ∧ Below w.heap.size w w' := by
  obtain ⟨v0, v1, v2, r, b, v5, v6, v7, v8, v9, v10, v11, v12, v13, v14, v15, v16, v17⟩ := d
  unfold SigD.agg
  simp only at hb ⊢
  have HB := Lib.hid (fun o => (Below.refl w.heap.size w).alloc (Nat.le_refl _) o)
  have c := fun W => digits7_any b hb W
  by_cases h1 : r = 1
  · subst h1
    have HR := Lib.hid (show rolL 1 b = [32, 77] from rfl)
    generalize rolL 1 b = R at *
    clear c
    go_enter Tryz.func105, Tryz.ntmps105
    go_wp2_with fail
    go_ret
    exact ⟨by rw [HR.out] <;> rfl, HB.out _⟩
  have h1' : (r == 1) = false := by rw [beq_eq_false_iff_ne]; omega
  by_cases h2 : r = 2
  · subst h2
    have HR := Lib.hid (show rolL 2 b = 32 :: 109 :: Lib.decDigits b from rfl)
    generalize rolL 2 b = R at *
    have hst : (⟨#[32, 109]⟩ : ByteArray) ++ ⟨(Lib.decDigits b).toArray⟩ = ⟨(32 :: 109 :: Lib.decDigits b).toArray⟩ := strA [32, 109] _
    have hl : (Lib.decDigits b).length ≤ 20 := dec_len64 (by omega)
    generalize Lib.decDigits b = D at *
    clear h1'
    go_enter Tryz.func105, Tryz.ntmps105
    go_wp2_with fail
    with_reducible refine (c _).mono ?_
    rintro e w1 ⟨rfl, hb⟩
    have hb2 := bstep (HB.out _) hb (by simp)
    go_wp2_with fail
    go_ret
    exact ⟨by rw [HR.out] <;> rfl, hb2⟩
  · have h2' : (r == 2) = false := by rw [beq_eq_false_iff_ne]; omega
    have HR := Lib.hid (show rolL r b = [] by unfold rolL; rw [if_neg h1, if_neg h2])
    generalize rolL r b = R at *
    clear c
    go_enter Tryz.func105, Tryz.ntmps105
    go_wp2_with fail
    go_ret
    exact ⟨by rw [HR.out] <;> rfl, HB.out _⟩

theorem cell_oth {W : World} {b o o' : Nat} {v x : Value} (h : o ≠ o') (e : W.cell? ⟨b, o', none⟩ = some x) : (W.setCell ⟨b, o, none⟩ v).cell? ⟨b, o', none⟩ = some x := by
  rw [World.cell?_setCell_other]
  · exact e
  · intro g; exact h (by cases g; rfl)
theorem cell_own {W : World} {a : Addr} {v u : Value} (e : W.cell? a = some u) : (W.setCell a v).cell? a = some v := by
  first | exact World.cell?_setCell_same e | exact World.cell?_setCell_same _ _ _ e | exact World.cell?_setCell_same _ _ _ _ e | exact World.cell?_setCell_same _ _ e | exact World.cell?_setCell_same _ e | (have := World.cell?_setCell_same (h := e); exact this ..)
theorem frozen_two (w : World) (x : Obj) (C : Array Value) (t : TypeId) (fr : Nat × Nat) (j : Nat) (h : (decide (fr.1 ≤ j) && decide (j < fr.2)) = false) : ((w.alloc x).alloc (.cells C t fr)).frozen? ⟨w.heap.size + 1, j, none⟩ = false := by
  have e : ((w.alloc x).alloc (.cells C t fr)).heap[w.heap.size + 1]? = some (.cells C t fr) := by
    show ((w.alloc x).heap.push (.cells C t fr))[w.heap.size + 1]? = _
    rw [show w.heap.size + 1 = (w.alloc x).heap.size by simp]
    exact Array.getElem?_push_size
  unfold World.frozen?
  simp only
  rw [e]
  exact h

set_option maxRecDepth 100000 in
set_option maxHeartbeats 2000000 in
theorem order_any (d : SigD) (tv : Value) (w : World) :
    Calls Tryz.prog 39 #[d.agg tv] w fun e w' => e = .returned (.string ⟨(ordL d.moto d.signed).toArray⟩) ∧ Below w.heap.size w w' := by
  obtain ⟨v0, v1, v2, v3, v4, v5, v6, m, s, v9, v10, v11, v12, v13, v14, v15, v16, v17⟩ := d
  unfold SigD.agg
  simp only
  have HB := Lib.hid (fun o => (Below.refl w.heap.size w).alloc (Nat.le_refl _) o)
  obtain ⟨C, hC⟩ : ∃ C : Array Value, C = #[.int .i64 v0, .int .i64 v1, .string ⟨v2.toArray⟩, .int .i64 v3, .int .u64 (v4 : Nat), .int .i64 v5, .int .i64 v6, .bool m, .bool s, .int .i64 v9, .int .i64 v10, .int .i64 v11, .int .i64 v12, .int .i64 v13, .int .i64 v14, .int .i64 v15, .int .i64 v16, .string ⟨v17.toArray⟩, tv] := ⟨_, rfl⟩
  have hc1 := Go.Joins.run_convert_bytes_const_at (P := Tryz.prog) (w.alloc (.cells C 53)) 95 5 #[.int .u8 64, .int .u8 49, .int .u8 43] 3 3 (w.heap.size + 1) (by simp) Tryz.underlying95 Tryz.underlying5
  rw [hC] at hc1
  have hc2 : ∀ (x y : UInt8) (W : World), W.cell? ⟨w.heap.size + 1, 0, none⟩ = some (.int .u8 64) → W.cell? ⟨w.heap.size + 1, 1, none⟩ = some (.int .u8 (x.toNat : Int)) → W.cell? ⟨w.heap.size + 1, 2, none⟩ = some (.int .u8 (y.toNat : Int)) → (convert 95 9 (.slice (some ⟨w.heap.size + 1, 0, none⟩) 3 3)).run Tryz.prog W = .ok (.string ⟨#[64, x, y]⟩) W := fun x y W a0 a1 a2 =>
    run_convert_bytes_back W 95 9 5 ⟨w.heap.size + 1, 0, none⟩ 3 [64, x, y] Tryz.underlying95 Tryz.underlying5 Tryz.underlying9 fun j hj => by
      rw [Addr.add_lit]
      match j, hj with
      | 0, _ => exact a0
      | 1, _ => exact a1
      | 2, _ => exact a2
  have HC2 := Lib.hid hc2
  clear hc2
  have HB2 : Below w.heap.size w ((w.alloc (.cells C 53)).alloc (.cells #[.int .u8 64, .int .u8 49, .int .u8 43] 5 (3, 4))) := ((Below.refl w.heap.size w).alloc (Nat.le_refl _) _).alloc (by simp) _
  have e0 : ∀ j, ((w.alloc (.cells C 53)).alloc (.cells #[.int .u8 64, .int .u8 49, .int .u8 43] 5 (3, 4))).cell? ⟨w.heap.size + 1, j, none⟩ = (#[.int .u8 64, .int .u8 49, .int .u8 43] : Array Value)[j]? := fun j => Go.Joins.cell_alloc_mark_at _ _ _ _ _ _ (by simp)
  have e1 : ∀ j, ((w.alloc (.cells C 53)).alloc (.cells #[.int .u8 64, .int .u8 49, .int .u8 43] 5 (3, 4))).cell? ⟨w.heap.size, j, none⟩ = C[j]? := fun j => by
    rw [World.cell?_alloc_old _ _ _ (by simp)]
    exact Go.Joins.cell_alloc_mark_at _ _ _ _ _ _ rfl
  have f1 : ((w.alloc (.cells C 53)).alloc (.cells #[.int .u8 64, .int .u8 49, .int .u8 43] 5 (3, 4))).frozen? ⟨w.heap.size + 1, 1, none⟩ = false := frozen_two _ _ _ _ _ _ (by decide)
  have f2 : ((w.alloc (.cells C 53)).alloc (.cells #[.int .u8 64, .int .u8 49, .int .u8 43] 5 (3, 4))).frozen? ⟨w.heap.size + 1, 2, none⟩ = false := frozen_two _ _ _ _ _ _ (by decide)
  have hm := e1 7
  have hs := e1 8
  have h0 := e0 0
  have h1 := e0 1
  have h2 := e0 2
  have hz : ((w.alloc (.cells C 53)).alloc (.cells #[.int .u8 64, .int .u8 49, .int .u8 43] 5 (3, 4))).heap.size = w.heap.size + 2 := by simp
  rw [← hC] at hc1
  simp only [List.size_toArray, List.length_cons, List.length_nil, Nat.reduceAdd] at hc1
  generalize (w.alloc (.cells C 53)).alloc (.cells #[.int .u8 64, .int .u8 49, .int .u8 43] 5 (3, 4)) = W2 at *
  rw [hC] at hc1 hm hs
  clear e0 e1 hC
  simp at hm hs h0 h1 h2
  cases m
  · cases s
    · have hcv := HC2.out 49 43 W2 h0 h1 h2
      go_enter Tryz.func39, Tryz.ntmps39
      go_wp2_with fail
      go_ret
      exact ⟨rfl, HB2⟩
    · have hcv := HC2.out 49 45 (W2.setCell ⟨w.heap.size + 1, 2, none⟩ (.int .u8 45)) (cell_oth (by decide) h0) (cell_oth (by decide) h1) (cell_own h2)
      go_enter Tryz.func39, Tryz.ntmps39
      go_wp2_with fail
      go_ret
      exact ⟨rfl, HB2.setCell (by simp) _⟩
  · cases s
    · have hcv := HC2.out 48 43 (W2.setCell ⟨w.heap.size + 1, 1, none⟩ (.int .u8 48)) (cell_oth (by decide) h0) (cell_own h1) (cell_oth (by decide) h2)
      go_enter Tryz.func39, Tryz.ntmps39
      go_wp2_with fail
      go_ret
      exact ⟨rfl, HB2.setCell (by simp) _⟩
    · have hcv := HC2.out 48 45 ((W2.setCell ⟨w.heap.size + 1, 1, none⟩ (.int .u8 48)).setCell ⟨w.heap.size + 1, 2, none⟩ (.int .u8 45)) (cell_oth (by decide) (cell_oth (by decide) h0)) (cell_oth (by decide) (cell_own h1)) (cell_own (cell_oth (by decide) h2))
      go_enter Tryz.func39, Tryz.ntmps39
      go_wp2_with fail
      go_ret
      exact ⟨rfl, (HB2.setCell (by simp) _).setCell (by simp) _⟩
end Go.Proofs.YtlgbgobpdkilaaaGreatDoor

namespace Go.Proofs.YtlgbgobpdkilaaaGreatDoor
set_option linter.unusedVariables false
open Go.RowKit Go.Shelf

/-- may a role stand with this branch? -/
def rolB (r : Int) (b : Nat) : Bool := r == 2 || (b == 0 && (r == 1 || r == 0))
def rolV (r : Int) (b : Nat) : Value := .tuple #[.string ⟨(if rolB r b then rolL r b else []).toArray⟩, .bool (rolB r b)]

set_option maxHeartbeats 2000000 in
theorem role_any (d : SigD) (tv : Value) (hb : d.branch < 18446744073709551616) (w : World) (htab : PowTab w) :
    Calls Tryz.prog 33 #[d.agg tv] w fun e w' => e = .returned (rolV d.role d.branch) ∧ Below w.heap.size w w' := by
  obtain ⟨v0, v1, v2, r, b, v5, v6, v7, v8, v9, v10, v11, v12, v13, v14, v15, v16, v17⟩ := d
  unfold SigD.agg
  simp only at hb ⊢
  have HB := Lib.hid (fun o => (Below.refl w.heap.size w).alloc (Nat.le_refl _) o)
  by_cases h2 : r = 2
  · subst h2
    have HR := Lib.hid (show rolV 2 b = .tuple #[.string ⟨(32 :: 109 :: Lib.decDigits b).toArray⟩, .bool true] from rfl)
    generalize rolV 2 b = R at *
    have c := fun o => fmtUint_any b hb (w.alloc o) (PowTab.keep htab (HB.out o))
    have hst : (⟨#[32, 109]⟩ : ByteArray) ++ ⟨(Lib.decDigits b).toArray⟩ = ⟨(32 :: 109 :: Lib.decDigits b).toArray⟩ := strA [32, 109] _
    have hl : (Lib.decDigits b).length ≤ 20 := dec_len64 (by omega)
    generalize Lib.decDigits b = D at *
    clear htab
    go_enter Tryz.func33, Tryz.ntmps33
    go_wp2_with fail
    with_reducible refine (c _).mono ?_
    rintro e w1 ⟨rfl, hb⟩
    have hb2 := bstep (HB.out _) hb (by simp)
    go_wp2_with fail
    go_ret2
    exact ⟨congrArg Ending.returned HR.out.symm, hb2⟩
  have h2' : (r == 2) = false := by rw [beq_eq_false_iff_ne]; omega
  clear htab
  by_cases h0 : b = 0
  · subst h0
    by_cases h1 : r = 1
    · subst h1
      have HR := Lib.hid (show rolV 1 0 = .tuple #[.string ⟨#[32, 77]⟩, .bool true] from rfl)
      generalize rolV 1 0 = R at *
      clear h2'
      go_enter Tryz.func33, Tryz.ntmps33
      go_wp2_with fail
      go_ret2
      exact ⟨congrArg Ending.returned HR.out.symm, HB.out _⟩
    · have h1' : (r == 1) = false := by rw [beq_eq_false_iff_ne]; omega
      have HR := Lib.hid (show rolV r 0 = .tuple #[.string ⟨#[]⟩, .bool (r == 0)] by unfold rolV rolB rolL; rw [h1', h2', if_neg h1, if_neg h2]; simp)
      generalize rolV r 0 = R at *
      go_enter Tryz.func33, Tryz.ntmps33
      go_wp2_with fail
      go_region_with fail
      go_wp2_with fail
      go_ret2
      refine ⟨congrArg Ending.returned HR.out.symm, ?_⟩
      first | exact HB.out _ | exact Go.below_drewN (HB.out _) _ | exact (HB.out _).drewN _ | exact (HB.out _).drew
  · have h0' : ((b : Int) == 0) = false := by rw [beq_eq_false_iff_ne]; omega
    have HR := Lib.hid (show rolV r b = .tuple #[.string ⟨#[]⟩, .bool false] by unfold rolV rolB; rw [h2', show (b == 0) = false by rw [beq_eq_false_iff_ne]; exact h0]; simp)
    generalize rolV r b = R at *
    go_enter Tryz.func33, Tryz.ntmps33
    go_wp2_with fail
    go_ret2
    exact ⟨congrArg Ending.returned HR.out.symm, HB.out _⟩
end Go.Proofs.YtlgbgobpdkilaaaGreatDoor
