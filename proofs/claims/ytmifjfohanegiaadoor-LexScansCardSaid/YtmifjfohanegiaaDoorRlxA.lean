/-
  The reference of chapters 03, 04: letter, digit, Control, Blank, at, digits: contracts.
-/
import Derived.Test.YtmifjfohanegiaaDoorRlxN
namespace Go.Proofs.YtmifjfohanegiaaDoor
set_option linter.unusedVariables false
open Go.RowKit

theorem control3_any (r : Nat) (w : World) :
    Calls Tryd.prog 31 #[.int .i32 (r : Nat)] w fun e w' => e = .returned (.bool (ctlU r)) ∧ w' = w := by
  have HI := Lib.hid (ctlU_iff r)
  generalize ctlU r = b at *
  by_cases h1 : (r : Int) < 32
  · have HB := Lib.hid (show b = true from HI.out.2 (.inl (by omega)))
    clear HI
    go_enter Tryd.func31, Tryd.ntmps31
    go_wp2_with fail
    go_ret
    exact ⟨by rw [HB.out] <;> rfl, rfl⟩
  · by_cases h2 : r = 127
    · have HB := Lib.hid (show b = true from HI.out.2 (.inr h2))
      have hb : ((r : Int) == 127) = true := by rw [h2]; rfl
      clear HI h2
      go_enter Tryd.func31, Tryd.ntmps31
      go_wp2_with fail
      go_ret
      exact ⟨by rw [HB.out] <;> rfl, rfl⟩
    · have HB := Lib.hid (show b = false by rw [Bool.eq_false_iff]; intro h; rcases HI.out.1 h with h | h <;> omega)
      have hb : ((r : Int) == 127) = false := by rw [beq_eq_false_iff_ne]; omega
      clear HI h2
      go_enter Tryd.func31, Tryd.ntmps31
      go_wp2_with fail
      go_ret
      exact ⟨by rw [HB.out] <;> rfl, rfl⟩
theorem blank3_any (r : Nat) (w : World) :
    Calls Tryd.prog 14 #[.int .i32 (r : Nat)] w fun e w' => e = .returned (.bool (blankU r)) ∧ w' = w := by
  have e1 : ((r : Int) == 32) = (r == 32) := by rw [Bool.eq_iff_iff, beq_iff_eq, beq_iff_eq]; omega
  have e2 : ((r : Int) == 9) = (r == 9) := by rw [Bool.eq_iff_iff, beq_iff_eq, beq_iff_eq]; omega
  have e3 : ((r : Int) == 10) = (r == 10) := by rw [Bool.eq_iff_iff, beq_iff_eq, beq_iff_eq]; omega
  have e4 : ((r : Int) == 13) = (r == 13) := by rw [Bool.eq_iff_iff, beq_iff_eq, beq_iff_eq]; omega
  have HI := Lib.hid (show blankU r = (r == 32 || r == 9 || r == 10 || r == 13) from rfl)
  generalize blankU r = b at *
  generalize (r == 32) = b1 at *
  generalize (r == 9) = b2 at *
  generalize (r == 10) = b3 at *
  generalize (r == 13) = b4 at *
  cases b1 <;> cases b2 <;> cases b3 <;> cases b4
  all_goals
    have HB := Lib.hid HI.out
    clear HI
    go_enter Tryd.func14, Tryd.ntmps14
    go_wp2_with fail
    go_ret
    exact ⟨by rw [HB.out] <;> rfl, rfl⟩
theorem letter4_any (r : Nat) (w : World) :
    Calls Tryd.prog 32 #[.int .u8 (r : Nat)] w fun e w' => e = .returned (.bool (ltU r)) ∧ w' = w := by
  have HI := Lib.hid (ltU_iff r)
  generalize ltU r = b at *
  have fin : ∀ v : Bool, (v = true ↔ (97 ≤ r ∧ r ≤ 122) ∨ (65 ≤ r ∧ r ≤ 90) ∨ r = 95) → b = v := fun v hv => by rw [Bool.eq_iff_iff, HI.out, hv]
  by_cases h1 : (97 : Int) ≤ r
  · by_cases h2 : (r : Int) ≤ 122
    · have HB := Lib.hid (fin true (by simp; omega))
      clear HI fin
      go_enter Tryd.func32, Tryd.ntmps32
      go_wp2_with fail
      go_ret
      exact ⟨by rw [HB.out] <;> rfl, rfl⟩
    · have HB := Lib.hid (fin false (by simp; omega))
      have h3 : (65 : Int) ≤ r := by omega
      have h4 : ¬ (r : Int) ≤ 90 := by omega
      have h5 : ((r : Int) == 95) = false := by rw [beq_eq_false_iff_ne]; omega
      clear HI fin
      go_enter Tryd.func32, Tryd.ntmps32
      go_wp2_with fail
      go_ret
      exact ⟨by rw [HB.out] <;> rfl, rfl⟩
  · by_cases h3 : (65 : Int) ≤ r
    · by_cases h4 : (r : Int) ≤ 90
      · have HB := Lib.hid (fin true (by simp; omega))
        clear HI fin
        go_enter Tryd.func32, Tryd.ntmps32
        go_wp2_with fail
        go_ret
        exact ⟨by rw [HB.out] <;> rfl, rfl⟩
      · by_cases h6 : r = 95
        · have HB := Lib.hid (fin true (by simp; omega))
          have h5 : ((r : Int) == 95) = true := by rw [h6]; rfl
          clear HI fin h6
          go_enter Tryd.func32, Tryd.ntmps32
          go_wp2_with fail
          go_ret
          exact ⟨by rw [HB.out] <;> rfl, rfl⟩
        · have HB := Lib.hid (fin false (by simp; omega))
          have h5 : ((r : Int) == 95) = false := by rw [beq_eq_false_iff_ne]; omega
          clear HI fin h6
          go_enter Tryd.func32, Tryd.ntmps32
          go_wp2_with fail
          go_ret
          exact ⟨by rw [HB.out] <;> rfl, rfl⟩
    · have HB := Lib.hid (fin false (by simp; omega))
      have h5 : ((r : Int) == 95) = false := by rw [beq_eq_false_iff_ne]; omega
      clear HI fin
      go_enter Tryd.func32, Tryd.ntmps32
      go_wp2_with fail
      go_ret
      exact ⟨by rw [HB.out] <;> rfl, rfl⟩

theorem digit4_any (r : Nat) (w : World) :
    Calls Tryd.prog 33 #[.int .u8 (r : Nat)] w fun e w' => e = .returned (.bool (dgU r)) ∧ w' = w := by
  have HI := Lib.hid (dgU_iff r)
  generalize dgU r = b at *
  have fin : ∀ v : Bool, (v = true ↔ 48 ≤ r ∧ r ≤ 57) → b = v := fun v hv => by rw [Bool.eq_iff_iff, HI.out, hv]
  by_cases h1 : (48 : Int) ≤ r
  · by_cases h2 : (r : Int) ≤ 57
    · have HB := Lib.hid (fin true (by simp; omega))
      clear HI fin
      go_enter Tryd.func33, Tryd.ntmps33
      go_wp2_with fail
      go_ret
      exact ⟨by rw [HB.out] <;> rfl, rfl⟩
    · have HB := Lib.hid (fin false (by simp; omega))
      clear HI fin
      go_enter Tryd.func33, Tryd.ntmps33
      go_wp2_with fail
      go_ret
      exact ⟨by rw [HB.out] <;> rfl, rfl⟩
  · have HB := Lib.hid (fin false (by simp; omega))
    clear HI fin
    go_enter Tryd.func33, Tryd.ntmps33
    go_wp2_with fail
    go_ret
    exact ⟨by rw [HB.out] <;> rfl, rfl⟩


theorem at4_any (s : List UInt8) (i : Nat) (hs : s.length ≤ 1000000000) (w : World) :
    Calls Tryd.prog 34 #[.string ⟨s.toArray⟩, .int .i64 (i : Nat)] w fun e w' => e = .returned (.int .u8 ((atB s i).toNat : Nat)) ∧ w' = w := by
  by_cases h : (i : Int) < s.length
  · have h' : i < s.length := by omega
    have hget : (⟨s.toArray⟩ : ByteArray)[i]'h' = s[i] := rfl
    rw [atB_lt h']
    generalize s[i] = c at *
    go_enter Tryd.func34, Tryd.ntmps34
    go_wp2_with fail
    go_ret
    exact ⟨rfl, rfl⟩
  · rw [atB_end (by omega)]
    go_enter Tryd.func34, Tryd.ntmps34
    go_wp2_with fail
    go_ret
    exact ⟨rfl, rfl⟩

set_option maxRecDepth 100000 in
set_option maxHeartbeats 2000000 in
theorem digits4_any (s : List UInt8) (i : Nat) (hs : s.length ≤ 1000000000) (hi : i ≤ s.length) (w : World) :
    Calls Tryd.prog 51 #[.string ⟨s.toArray⟩, .int .i64 i] w fun e w' => e = .returned (.int .i64 (i + (tw (s.drop i)).length : Nat)) ∧ w' = w := by
  obtain ⟨T, hT⟩ : ∃ T, T = i + (tw (s.drop i)).length := ⟨_, rfl⟩
  rw [← hT]
  have HT := Lib.hid hT
  clear hT
  go_enter Tryd.func51, Tryd.ntmps51
  go_wp2_with fail
  go_loopw [1] (fun x wr => ∃ k : Nat, x = .int .i64 (k : Nat) ∧ k ≤ s.length ∧ T = k + (tw (s.drop k)).length ∧ wr = w) (fun x _ => s.length - (intOf x).toNat)
  case atStart => exact ⟨i, rfl, hi, HT.out, rfl⟩
  case round =>
    obtain ⟨k, rfl, hk, hTk, rfl⟩ := hrel
    by_cases hlt : (k : Int) < s.length
    · have hlt' : k < s.length := by omega
      have hget : (⟨s.toArray⟩ : ByteArray)[k]'hlt' = s[k] := rfl
      have hd := List.drop_eq_getElem_cons hlt'
      rw [hd] at hTk
      generalize s[k] = c at *
      have cd := digit4_any c.toNat
      rw [show dgU c.toNat = isDg c from rfl] at cd
      cases hc : isDg c
      · rw [tw_stop hc] at hTk
        have HTK := Lib.hid (show T = k from hTk)
        rw [hc] at cd
        clear hd hTk hc HT
        go_wp2_with fail
        with_reducible refine (cd _).mono ?_
        rintro e w1 ⟨rfl, rfl⟩
        clear cd
        go_wp2_with fail
        go_ret
        exact ⟨by rw [HTK.out]; rfl, rfl⟩
      · rw [tw_cons hc] at hTk
        have HTK := Lib.hid (show T = k + 1 + (tw (s.drop (k + 1))).length by rw [hTk, List.length_cons]; omega)
        rw [hc] at cd
        clear hd hTk hc
        go_wp2_with fail
        with_reducible refine (cd _).mono ?_
        rintro e w1 ⟨rfl, rfl⟩
        clear cd
        go_wp2_with fail
        go_roundw
        case rel => exact ⟨k + 1, by first | rfl | go_num, by omega, HTK.out, trivial⟩
        case measure => (simp [intOf] <;> omega)
    · have HTK := Lib.hid (show T = k by rw [hTk, show k = s.length by omega, List.drop_length]; rfl)
      clear hTk HT
      go_wp2_with fail
      go_ret
      exact ⟨by rw [HTK.out]; rfl, rfl⟩
end Go.Proofs.YtmifjfohanegiaaDoor
