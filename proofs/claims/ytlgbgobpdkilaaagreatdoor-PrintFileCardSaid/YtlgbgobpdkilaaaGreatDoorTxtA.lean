/-
  The reference's ten, places, decimal: contracts.
-/
import Derived.Test.YtlgbgobpdkilaaaGreatDoorNatT
import Derived.Test.YtlgbgobpdkilaaaGreatDoorParR
import Derived.Test.YtlgbgobpdkilaaaGreatDoorAppB

namespace Go.Proofs.YtlgbgobpdkilaaaGreatDoor
set_option linter.unusedVariables false
open Go.RowKit

theorem strA (A B : List UInt8) : (⟨A.toArray⟩ : ByteArray) ++ ⟨B.toArray⟩ = ⟨(A ++ B).toArray⟩ := by
  apply ByteArray.ext
  simp
theorem fresh_low {B B' : Nat} {v : Value} (h : FreshV B v) (hb : B' ≤ B) : FreshV B' v := fun a n c e => Nat.le_trans hb (h a n c e)
theorem digs1 {n : Nat} (h : n < 4294967296) : (digs n).length ≤ 1 := (digs_len n 1).2 (by simpa using h)
theorem pow62 {j : Nat} (h : j ≤ 62) : (digs (10 ^ j)).length ≤ 8 := by
  refine (digs_len _ 8).2 (Nat.lt_of_le_of_lt (Nat.pow_le_pow_right (by decide) h) ?_)
  decide +kernel
set_option maxRecDepth 100000 in
set_option maxHeartbeats 2000000 in
theorem ten_any (k : Nat) (hk : k ≤ 62) (w : World) :
    Calls Tryz.prog 152 #[.int .i64 k] w (RetNat w (10 ^ k)) := by
  have cf1 : ∀ w, Calls Tryz.prog 165 #[.int .u64 1] w (RetNat w 1) := fun w => from_any 1 (by decide) w
  have cf10 : ∀ w, Calls Tryz.prog 165 #[.int .u64 10] w (RetNat w 10) := fun w => from_any 10 (by decide) w
  go_enter Tryz.func152, Tryz.ntmps152
  go_wp2_with fail
  with_reducible refine (cf1 _).mono ?_
  rintro e w1 ⟨v1, rfl, hn1, hf1, hb1⟩
  obtain ⟨a1, c1, rfl, hs1⟩ := hn1
  clear cf1
  go_wp2_with fail
  go_loopw [3, 4] (fun v i wr => ∃ j : Nat, i = .int .i64 (j : Nat) ∧ j ≤ k ∧ NatV wr v (10 ^ j) ∧ FreshV w.heap.size v ∧ Below w.heap.size w wr) (fun _ i _ => k - (intOf i).toNat)
  case atStart => exact ⟨0, rfl, Nat.zero_le _, ⟨a1, c1, rfl, hs1⟩, hf1, hb1⟩
  case round =>
    clear hs1 hf1 hb1
    obtain ⟨j, rfl, hj, ⟨a, c, rfl, hs⟩, hf, hb⟩ := hrel
    have HF := Lib.hid hf
    clear hf
    by_cases hlt : (j : Int) < k
    · have hl := pow62 (show j ≤ 62 by omega)
      go_wp2_with fail
      with_reducible refine (cf10 _).mono ?_
      rintro e w2 ⟨_, rfl, ⟨a2, c2, rfl, hs2⟩, hf2, hb2⟩
      have cx := times_any (10 ^ j) 10 a a2 c c2 (by omega) (by have := digs1 (n := 10) (by decide); omega) w2 (hs.keep hb2 (Nat.le_refl _)) hs2
      have HB := Lib.hid (bstep hb hb2 (Nat.le_refl _))
      clear hs hs2 hf2 hb2 hb hl
      go_wp2_with fail
      with_reducible refine cx.mono ?_
      rintro e w3 ⟨v3, rfl, hn3, hf3, hb3⟩
      have HN := Lib.hid hn3
      have HF3 := Lib.hid (fresh_low hf3 HB.out.size)
      have HB3 := Lib.hid (bstep HB.out hb3 (Nat.le_refl _))
      clear hn3 hf3 hb3 cx
      go_wp2_with fail
      go_roundw
      case rel => exact ⟨j + 1, by go_num, by omega, by rw [Nat.pow_succ]; exact HN.out, HF3.out, HB3.out⟩
      case measure => simp [intOf]; omega
    · obtain rfl : j = k := by omega
      go_wp2_with fail
      go_ret
      exact ⟨_, rfl, ⟨a, c, rfl, hs⟩, HF.out, hb⟩

set_option maxRecDepth 100000 in
set_option maxHeartbeats 2000000 in
theorem places_any (d : Nat) (h1 : 1 ≤ d) (h2 : d ≤ 9223372036854775807) (w : World) :
    Calls Tryz.prog 148 #[.int .i64 d] w fun e w' => e = .returned (.int .i64 (if restN d = 1 then ((placesN d : Nat) : Int) else -1)) ∧ Below w.heap.size w w' := by
  have k2 := cnt_lt 2 d 63 (by decide) h1 (by omega)
  have s2 := strip_spec 2 d (by decide) h1
  have hle2 : stripN 2 d ≤ d := by conv => rhs; rw [s2.1]
                                   exact Nat.le_mul_of_pos_left _ (Nat.pow_pos (by decide))
  have k5 := cnt_lt 5 (stripN 2 d) 63 (by decide) s2.2.2 (Nat.lt_of_le_of_lt hle2 (by omega))
  obtain ⟨V, hV⟩ : ∃ V : Int, V = if restN d = 1 then ((placesN d : Nat) : Int) else -1 := ⟨_, rfl⟩
  rw [← hV]
  have HV := Lib.hid hV
  clear hV
  go_enter Tryz.func148, Tryz.ntmps148
  go_wp2_with fail
  go_loopw [0, 3] (fun x i wr => ∃ m j : Nat, x = .int .i64 (m : Nat) ∧ i = .int .i64 (j : Nat) ∧ 0 < m ∧ m ≤ d ∧ stripN 2 d = stripN 2 m ∧ cntN 2 d = cntN 2 m + j ∧ Below w.heap.size w wr) (fun x _ _ => (intOf x).toNat)
  case atStart => exact ⟨d, 0, rfl, rfl, h1, Nat.le_refl _, rfl, rfl, Below.refl _ _⟩
  case round =>
    obtain ⟨m, j, rfl, rfl, hm0, hmd, hst, hcn, hb⟩ := hrel
    have e1 : (m : Int).tmod 2 = ((m % 2 : Nat) : Int) := by rw [Int.tmod_eq_emod_of_nonneg (by omega)]; omega
    have e2 : (m : Int).tdiv 2 = ((m / 2 : Nat) : Int) := by rw [Int.tdiv_eq_ediv_of_nonneg (by omega)]; omega
    have HST := Lib.hid hst
    have HCN := Lib.hid hcn
    clear hst hcn
    by_cases h0 : m % 2 = 0
    · obtain ⟨y1, y2⟩ := strip_yes (p := 2) (by decide) hm0 h0
      have hj : (j : Int) < 63 := by have := HCN.out; omega
      have hm2 : 0 < m / 2 := by omega
      have hm3 : m / 2 ≤ d := by omega
      have hm4 : m / 2 < m := by omega
      have HY := Lib.hid (And.intro y1 y2)
      have z1 : ((m % 2 : Nat) : Int) = 0 := by omega
      rw [z1] at e1
      clear y1 y2 z1 h0
      generalize m / 2 = m2 at *
      go_wp2_with fail
      go_roundw
      case rel => exact ⟨m2, j + 1, by go_num, by go_num, hm2, hm3, by rw [HST.out, HY.out.1], by rw [HCN.out, HY.out.2]; omega, hb⟩
      case measure => simp [intOf]; omega
    · obtain ⟨y1, y2⟩ := strip_no (p := 2) h0
      have z1 : ((m % 2 : Nat) : Int) = 1 := by omega
      rw [z1] at e1
      have HM := Lib.hid (show stripN 2 d = m from HST.out.trans y1)
      have HJ := Lib.hid (show cntN 2 d = j by have := HCN.out; omega)
      clear y1 y2 z1 h0
      go_wp2_with fail
      clear e1 e2
      go_loopw [0, 4] (fun x i wr => ∃ m5 j5 : Nat, x = .int .i64 (m5 : Nat) ∧ i = .int .i64 (j5 : Nat) ∧ 0 < m5 ∧ m5 ≤ d ∧ stripN 5 m = stripN 5 m5 ∧ cntN 5 m = cntN 5 m5 + j5 ∧ Below w.heap.size w wr) (fun x _ _ => (intOf x).toNat)
      case atStart => exact ⟨m, 0, rfl, rfl, hm0, hmd, rfl, rfl, hb⟩
      case round =>
        clear hb
        obtain ⟨m5, j5, rfl, rfl, hm50, hmd5, hst5, hcn5, hb⟩ := hrel
        have e1 : (m5 : Int).tmod 5 = ((m5 % 5 : Nat) : Int) := by rw [Int.tmod_eq_emod_of_nonneg (by omega)]; omega
        have e2 : (m5 : Int).tdiv 5 = ((m5 / 5 : Nat) : Int) := by rw [Int.tdiv_eq_ediv_of_nonneg (by omega)]; omega
        have HST5 := Lib.hid hst5
        have HCN5 := Lib.hid hcn5
        clear hst5 hcn5
        by_cases h50 : m5 % 5 = 0
        · obtain ⟨y1, y2⟩ := strip_yes (p := 5) (by decide) hm50 h50
          have hj5 : (j5 : Int) < 63 := by have h1 := HCN5.out; have h2 := HM.out; rw [h2] at k5; omega
          have hm2 : 0 < m5 / 5 := by omega
          have hm3 : m5 / 5 ≤ d := by omega
          have hm4 : m5 / 5 < m5 := by omega
          have HY := Lib.hid (And.intro y1 y2)
          have z1 : ((m5 % 5 : Nat) : Int) = 0 := by omega
          rw [z1] at e1
          clear y1 y2 z1 h50
          generalize m5 / 5 = m2 at *
          go_wp2_with fail
          go_roundw
          case rel => exact ⟨m2, j5 + 1, by go_num, by go_num, hm2, hm3, by rw [HST5.out, HY.out.1], by rw [HCN5.out, HY.out.2]; omega, hb⟩
          case measure => simp [intOf]; omega
        · obtain ⟨y1, y2⟩ := strip_no (p := 5) h50
          have z1 : (((m5 % 5 : Nat) : Int) == 0) = false := by rw [beq_eq_false_iff_ne]; omega
          have hrest : restN d = m5 := by unfold restN; rw [HM.out, HST5.out, y1]
          have hj5 : cntN 5 (stripN 2 d) = j5 := by rw [HM.out, HCN5.out, y2, Nat.zero_add]
          have hpl : placesN d = max j j5 := by unfold placesN; rw [HJ.out, hj5]
          have HR := Lib.hid (And.intro hrest hpl)
          have hjj : j < 63 := by rw [HJ.out] at k2; exact k2
          have hjj5 : j5 < 63 := by rw [hj5] at k5; exact k5
          clear y1 y2 h50 hrest hpl hj5 k2 k5 s2 hle2 e2
          generalize ((m5 % 5 : Nat) : Int) = r5 at *
          by_cases h1 : m5 = 1
          · have h1' : (m5 : Int) = 1 := by omega
            have HE := Lib.hid (show (if restN d = 1 then ((placesN d : Nat) : Int) else -1) = (max j j5 : Nat) by rw [if_pos (HR.out.1.trans h1), HR.out.2])
            clear h1
            by_cases hmx : (j : Int) < j5
            · have HM2 := Lib.hid (show max j j5 = j5 by omega)
              go_wp2_with fail
              go_ret
              exact ⟨by rw [HV.out, HE.out, HM2.out]; rfl, hb⟩
            · have HM2 := Lib.hid (show max j j5 = j by omega)
              go_wp2_with fail
              go_ret
              exact ⟨by rw [HV.out, HE.out, HM2.out]; rfl, hb⟩
          · have hne : ((m5 : Int) == 1) = false := by rw [beq_eq_false_iff_ne]; omega
            have HE := Lib.hid (show (if restN d = 1 then ((placesN d : Nat) : Int) else -1) = -1 by rw [if_neg (by rw [HR.out.1]; exact h1)])
            go_wp2_with fail
            go_ret
            exact ⟨by rw [HV.out, HE.out]; rfl, hb⟩
end Go.Proofs.YtlgbgobpdkilaaaGreatDoor
