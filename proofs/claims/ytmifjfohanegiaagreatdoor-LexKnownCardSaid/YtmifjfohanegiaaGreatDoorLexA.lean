/-
  lex: letter, digit, signed, digits: contracts.
-/
import Derived.Test.YtmifjfohanegiaaGreatDoorLexM
import Derived.Test.YtmifjfohanegiaaGreatDoorParR
import Derived.Test.YtmifjfohanegiaaGreatDoorChrA

namespace Go.Proofs.YtmifjfohanegiaaGreatDoor
set_option linter.unusedVariables false
open Go.RowKit

def ltU (r : Nat) : Bool := (decide (97 ≤ r) && decide (r ≤ 122)) || (decide (65 ≤ r) && decide (r ≤ 90)) || r == 95
def dgU (r : Nat) : Bool := decide (48 ≤ r) && decide (r ≤ 57)
theorem isDg_U (c : UInt8) : isDg c = dgU c.toNat := rfl
theorem ltU_iff (r : Nat) : ltU r = true ↔ (97 ≤ r ∧ r ≤ 122) ∨ (65 ≤ r ∧ r ≤ 90) ∨ r = 95 := by unfold ltU; simp [or_assoc]
theorem dgU_iff (r : Nat) : dgU r = true ↔ 48 ≤ r ∧ r ≤ 57 := by unfold dgU; simp
theorem ltU_low {r : Nat} (h : ltU r = true) : r < 128 := by rcases (ltU_iff r).1 h with h | h | h <;> omega
theorem dgU_low {r : Nat} (h : dgU r = true) : r < 128 := by have := (dgU_iff r).1 h; omega

theorem letter_any (r : Nat) (w : World) :
    Calls Tryz.prog 42 #[.int .i32 (r : Nat)] w fun e w' => e = .returned (.bool (ltU r)) ∧ w' = w := by
  have HI := Lib.hid (ltU_iff r)
  generalize ltU r = b at *
  have fin : ∀ v : Bool, (v = true ↔ (97 ≤ r ∧ r ≤ 122) ∨ (65 ≤ r ∧ r ≤ 90) ∨ r = 95) → b = v := fun v hv => by rw [Bool.eq_iff_iff, HI.out, hv]
  by_cases h1 : (97 : Int) ≤ r
  · by_cases h2 : (r : Int) ≤ 122
    · have HB := Lib.hid (fin true (by simp; omega))
      clear HI fin
      go_enter Tryz.func42, Tryz.ntmps42
      go_wp2_with fail
      go_ret
      exact ⟨by rw [HB.out] <;> rfl, rfl⟩
    · have HB := Lib.hid (fin false (by simp; omega))
      have h3 : (65 : Int) ≤ r := by omega
      have h4 : ¬ (r : Int) ≤ 90 := by omega
      have h5 : ((r : Int) == 95) = false := by rw [beq_eq_false_iff_ne]; omega
      clear HI fin
      go_enter Tryz.func42, Tryz.ntmps42
      go_wp2_with fail
      go_ret
      exact ⟨by rw [HB.out] <;> rfl, rfl⟩
  · by_cases h3 : (65 : Int) ≤ r
    · by_cases h4 : (r : Int) ≤ 90
      · have HB := Lib.hid (fin true (by simp; omega))
        clear HI fin
        go_enter Tryz.func42, Tryz.ntmps42
        go_wp2_with fail
        go_ret
        exact ⟨by rw [HB.out] <;> rfl, rfl⟩
      · by_cases h6 : r = 95
        · have HB := Lib.hid (fin true (by simp; omega))
          have h5 : ((r : Int) == 95) = true := by rw [h6]; rfl
          clear HI fin h6
          go_enter Tryz.func42, Tryz.ntmps42
          go_wp2_with fail
          go_ret
          exact ⟨by rw [HB.out] <;> rfl, rfl⟩
        · have HB := Lib.hid (fin false (by simp; omega))
          have h5 : ((r : Int) == 95) = false := by rw [beq_eq_false_iff_ne]; omega
          clear HI fin h6
          go_enter Tryz.func42, Tryz.ntmps42
          go_wp2_with fail
          go_ret
          exact ⟨by rw [HB.out] <;> rfl, rfl⟩
    · have HB := Lib.hid (fin false (by simp; omega))
      have h5 : ((r : Int) == 95) = false := by rw [beq_eq_false_iff_ne]; omega
      clear HI fin
      go_enter Tryz.func42, Tryz.ntmps42
      go_wp2_with fail
      go_ret
      exact ⟨by rw [HB.out] <;> rfl, rfl⟩

theorem digit_any (r : Nat) (w : World) :
    Calls Tryz.prog 43 #[.int .i32 (r : Nat)] w fun e w' => e = .returned (.bool (dgU r)) ∧ w' = w := by
  have HI := Lib.hid (dgU_iff r)
  generalize dgU r = b at *
  have fin : ∀ v : Bool, (v = true ↔ 48 ≤ r ∧ r ≤ 57) → b = v := fun v hv => by rw [Bool.eq_iff_iff, HI.out, hv]
  by_cases h1 : (48 : Int) ≤ r
  · by_cases h2 : (r : Int) ≤ 57
    · have HB := Lib.hid (fin true (by simp; omega))
      clear HI fin
      go_enter Tryz.func43, Tryz.ntmps43
      go_wp2_with fail
      go_ret
      exact ⟨by rw [HB.out] <;> rfl, rfl⟩
    · have HB := Lib.hid (fin false (by simp; omega))
      clear HI fin
      go_enter Tryz.func43, Tryz.ntmps43
      go_wp2_with fail
      go_ret
      exact ⟨by rw [HB.out] <;> rfl, rfl⟩
  · have HB := Lib.hid (fin false (by simp; omega))
    clear HI fin
    go_enter Tryz.func43, Tryz.ntmps43
    go_wp2_with fail
    go_ret
    exact ⟨by rw [HB.out] <;> rfl, rfl⟩

/-- a sign ahead -/
def sgnN : List UInt8 → Nat
  | [] => 0
  | c :: _ => if isSg c = true then 1 else 0
theorem signed_any (s : List UInt8) (w : World) :
    Calls Tryz.prog 76 #[.string ⟨s.toArray⟩] w fun e w' => e = .returned (.int .i64 (sgnN s : Nat)) ∧ w' = w := by
  by_cases h0 : s = []
  · subst h0
    go_enter Tryz.func76, Tryz.ntmps76
    go_wp2_with fail
    go_ret
    exact ⟨rfl, rfl⟩
  · have hpos : 0 < s.length := List.length_pos_iff.2 h0
    have hne : s.isEmpty = false := by cases s <;> first | rfl | exact absurd rfl h0
    have hget : (⟨s.toArray⟩ : ByteArray)[0]'hpos = s[0] := rfl
    have hsg : sgnN s = if isSg s[0] = true then 1 else 0 := by cases s <;> first | rfl | exact absurd rfl h0
    have e43 : UInt8.toNat 43 = 43 := rfl
    have e45 : UInt8.toNat 45 = 45 := rfl
    generalize s[0] = c at *
    generalize sgnN s = T at *
    clear h0
    by_cases h1 : c = 43
    · have HT := Lib.hid (show T = 1 by rw [hsg, h1]; rfl)
      have g1 : ((c.toNat : Int) == 43) = true := by rw [h1]; rfl
      clear hsg h1
      go_enter Tryz.func76, Tryz.ntmps76
      go_wp2_with fail
      go_ret
      exact ⟨by rw [HT.out] <;> rfl, rfl⟩
    · have g1 : ((c.toNat : Int) == 43) = false := by rw [beq_eq_false_iff_ne]; intro h; exact h1 (UInt8.toNat.inj (by omega))
      by_cases h2 : c = 45
      · have HT := Lib.hid (show T = 1 by rw [hsg, h2]; rfl)
        have g2 : ((c.toNat : Int) == 45) = true := by rw [h2]; rfl
        clear hsg h1 h2
        go_enter Tryz.func76, Tryz.ntmps76
        go_wp2_with fail
        go_ret
        exact ⟨by rw [HT.out] <;> rfl, rfl⟩
      · have g2 : ((c.toNat : Int) == 45) = false := by rw [beq_eq_false_iff_ne]; intro h; exact h2 (UInt8.toNat.inj (by omega))
        have HT := Lib.hid (show T = 0 by rw [hsg, if_neg]; unfold isSg; simp [h1, h2])
        clear hsg h1 h2
        go_enter Tryz.func76, Tryz.ntmps76
        go_wp2_with fail
        go_ret
        exact ⟨by rw [HT.out] <;> rfl, rfl⟩

set_option maxRecDepth 100000 in
set_option maxHeartbeats 2000000 in
/-- how many digits a text begins with -/
theorem digitsN_any (s : List UInt8) (hs : s.length ≤ 1000000000) (w : World) :
    Calls Tryz.prog 77 #[.string ⟨s.toArray⟩] w fun e w' => e = .returned (.int .i64 ((tw s).length : Nat)) ∧ Below w.heap.size w w' := by
  obtain ⟨T, hT⟩ : ∃ T, T = (tw s).length := ⟨_, rfl⟩
  rw [← hT]
  have hb0 : Below w.heap.size w (w.iter ⟨s.toArray⟩ 0) := (Below.refl _ _).alloc (Nat.le_refl _) _
  have hi0 := World.iter_heap w ⟨s.toArray⟩ 0
  have HT := Lib.hid hT
  clear hT
  go_enter Tryz.func77, Tryz.ntmps77
  go_wp2_with fail
  generalize w.iter ⟨s.toArray⟩ 0 = V at *
  go_loopw [] (fun wr => ∃ k : Nat, k ≤ s.length ∧ T = k + (tw (s.drop k)).length ∧ wr.heap[w.heap.size]? = some (.stringIter ⟨s.toArray⟩ k) ∧ Below w.heap.size w wr) (fun wr => s.length - wr.iterPos w.heap.size)
  case atStart => exact ⟨0, Nat.zero_le _, by rw [HT.out]; simp, hi0, hb0⟩
  case round =>
    clear hi0 hb0 HT
    obtain ⟨k, hk, hTk, hit, hbw⟩ := hrel
    have hmz : wr.iterPos w.heap.size = k := iterPos_of hit
    by_cases hlt : k < s.length
    · have hps : k < (⟨s.toArray⟩ : ByteArray).size := hlt
      have hnx : ∀ ty, (Instr.next (.pointer (some ⟨w.heap.size, 0, none⟩)) true ty).run Tryz.prog wr = _ := fun ty => Lib.run_next_any_at wr w.heap.size ⟨s.toArray⟩ k ty hit hps
      rw [dec_drop] at hnx
      have hd := List.drop_eq_getElem_cons hlt
      rw [hd] at hTk hnx
      generalize s[k] = c at *
      cases hc : dgU (decL (c :: s.drop (k + 1))).1
      · have hcd : isDg c = false := by
          rw [Bool.eq_false_iff]; intro h
          have h2 := dgU_low (show dgU c.toNat = true from h)
          rw [dec_ascii c _ h2] at hc
          rw [isDg_U] at h; rw [h] at hc; cases hc
        rw [tw_stop hcd] at hTk
        have HTK := Lib.hid (show T = k from hTk)
        have hbw2 := Lib.below_iterAt hbw (k := w.heap.size) (Nat.le_refl _) ⟨s.toArray⟩ (k + (decL (c :: s.drop (k + 1))).2)
        have cd := digit_any (decL (c :: s.drop (k + 1))).1
        rw [hc] at cd
        clear hd hTk hc hcd hmz hps
        generalize (decL (c :: s.drop (k + 1))).1 = R at *
        generalize (decL (c :: s.drop (k + 1))).2 = N at *
        generalize wr.iterAt w.heap.size ⟨s.toArray⟩ (k + N) = wv at *
        go_wp2_with fail
        with_reducible refine (cd _).mono ?_
        rintro e w1 ⟨rfl, rfl⟩
        go_wp2_with fail
        go_ret
        exact ⟨by rw [HTK.out] <;> rfl, hbw2⟩
      · obtain ⟨hde, hlo⟩ := dec_low c (s.drop (k + 1)) (dgU_low hc)
        rw [hde] at hnx hc
        have hcd : isDg c = true := hc
        rw [tw_cons hcd] at hTk
        have HTK := Lib.hid (show T = k + 1 + (tw (s.drop (k + 1))).length by rw [hTk, List.length_cons]; omega)
        have hbw2 := Lib.below_iterAt hbw (k := w.heap.size) (Nat.le_refl _) ⟨s.toArray⟩ (k + 1)
        have hit2 := Lib.iterAt_heap wr w.heap.size ⟨s.toArray⟩ k (k + 1) hit
        have cd := digit_any c.toNat
        rw [hc] at cd
        have HM := Lib.hid hmz
        clear hd hTk hc hcd hmz hps hde hlo
        simp only at hnx
        generalize wr.iterAt w.heap.size ⟨s.toArray⟩ (k + 1) = wv at *
        go_wp2_with fail
        with_reducible refine (cd _).mono ?_
        rintro e w1 ⟨rfl, rfl⟩
        go_wp2_with fail
        go_roundw
        case rel => exact ⟨k + 1, by omega, HTK.out, hit2, hbw2⟩
        case measure => rw [iterPos_of hit2, HM.out]; omega
    · have HTK := Lib.hid (show T = k by rw [hTk, show k = s.length by omega, List.drop_length]; rfl)
      have hps : ¬ k < (⟨s.toArray⟩ : ByteArray).size := hlt
      have hnx : ∀ ty, (Instr.next (.pointer (some ⟨w.heap.size, 0, none⟩)) true ty).run Tryz.prog wr = _ := fun ty => Lib.run_next_end_at wr w.heap.size ⟨s.toArray⟩ k ty hit hps
      have hks : (s.length : Int) = k := by omega
      have HKS := Lib.hid hks
      clear hTk hps hmz hks
      go_wp2_with fail
      go_ret
      exact ⟨by rw [HTK.out]; exact congrArg _ (by show Value.int _ _ = Value.int _ _; rw [HKS.out]), hbw⟩
end Go.Proofs.YtmifjfohanegiaaGreatDoor
