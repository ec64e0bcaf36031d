/-
  busbarlaw04's after, plain, bytesAt: contracts.
-/
import Derived.Test.YtmifjfohanegiaaGreatDoorPlcM
import Derived.Test.YtmifjfohanegiaaGreatDoorBaseD
namespace Go.Proofs.YtmifjfohanegiaaGreatDoor
set_option linter.unusedVariables false
open Go.RowKit Go.Shelf

set_option maxRecDepth 100000 in
set_option maxHeartbeats 2000000 in
theorem after_any (a0 a1 b0 b1 : Int) (h : AftP (a0, a1) (b0, b1)) (w : World) :
    Calls Tryz.prog 12 #[.agg #[.int .i64 a0, .int .i64 a1], .agg #[.int .i64 b0, .int .i64 b1]] w fun e w' => e = .returned (.bool true) ∧ Below w.heap.size w w' := by
  obtain ⟨ta, tb, hsz, hbw⟩ := box2 w #[.int .i64 a0, .int .i64 a1] #[.int .i64 b0, .int .i64 b1] 31 31
  obtain ⟨c0, c1, f0, f1⟩ := ta.two
  obtain ⟨d0, d1, g0, g1⟩ := tb.two
  have HB := Lib.hid hbw
  clear ta tb hsz hbw
  by_cases h1 : b0 < a0
  · go_enter Tryz.func12, Tryz.ntmps12
    go_wp2_with fail
    go_ret
    exact ⟨rfl, HB.out⟩
  · have h2 : a0 = b0 ∧ b1 < a1 := by unfold AftP at h; simp only at h; omega
    obtain ⟨rfl, h3⟩ := h2
    clear h
    have e1 : (a0 == a0) = true := by simp
    go_enter Tryz.func12, Tryz.ntmps12
    go_wp2_with fail
    go_ret
    exact ⟨rfl, HB.out⟩

def ascL (s : List UInt8) : Bool := s.all fun c => decide (c.toNat ≤ 127)
theorem asc_at {s : List UInt8} (h : ascL s = true) (i : Nat) (hi : i < s.length) : s[i].toNat ≤ 127 := by
  have := List.all_eq_true.1 h s[i] (List.getElem_mem hi)
  simpa using this
theorem asc_drop {s : List UInt8} (i : Nat) (hi : i < s.length) : ascL (s.drop i) = (decide (s[i].toNat ≤ 127) && ascL (s.drop (i + 1))) := by
  unfold ascL
  rw [List.drop_eq_getElem_cons hi, List.all_cons]
set_option maxRecDepth 100000 in
set_option maxHeartbeats 2000000 in
theorem plain4_any (s : List UInt8) (hs : s.length ≤ 9223372036854775807) (w : World) :
    Calls Tryz.prog 11 #[.string ⟨s.toArray⟩] w fun e w' => e = .returned (.bool (ascL s)) ∧ Below w.heap.size w w' := by
  obtain ⟨T, hT⟩ : ∃ T, T = ascL s := ⟨_, rfl⟩
  rw [← hT]
  have HT := Lib.hid hT
  clear hT
  go_enter Tryz.func11, Tryz.ntmps11
  go_wp2_with fail
  go_loopw [3] (fun i wr => ∃ k : Nat, k ≤ s.length ∧ i = .int .i64 k ∧ T = ascL (s.drop k) ∧ Below w.heap.size w wr) (fun i _ => s.length - (intOf i).toNat)
  case atStart => exact ⟨0, Nat.zero_le _, rfl, by rw [HT.out]; rfl, Below.refl _ _⟩
  case round =>
    clear HT
    obtain ⟨k, hk, rfl, hTk, hbel⟩ := hrel
    have HBE := Lib.hid hbel
    clear hbel
    by_cases hlt : k < s.length
    · have hget : (⟨s.toArray⟩ : ByteArray)[k]'hlt = s[k] := rfl
      rw [asc_drop k hlt] at hTk
      generalize s[k] = c at *
      by_cases hc : (127 : Int) < c.toNat
      · have HTK := Lib.hid (show T = false by rw [hTk, decide_eq_false (by omega), Bool.false_and])
        clear hTk
        go_wp2_with fail
        go_ret
        exact ⟨by rw [HTK.out] <;> rfl, HBE.out⟩
      · have HTK := Lib.hid (show T = ascL (s.drop (k + 1)) by rw [hTk, decide_eq_true (by omega), Bool.true_and])
        clear hTk
        go_wp2_with fail
        go_roundw
        case rel => exact ⟨k + 1, by omega, by go_num, HTK.out, HBE.out⟩
        case measure => simp [intOf]; omega
    · have : k = s.length := by omega
      subst this
      have HTK := Lib.hid (show T = true by rw [hTk, List.drop_length]; rfl)
      clear hTk
      go_wp2_with fail
      go_ret
      exact ⟨by rw [HTK.out] <;> rfl, HBE.out⟩

set_option maxRecDepth 100000 in
set_option maxHeartbeats 4000000 in
theorem bytesAt_any (s : List UInt8) (hs : s.length ≤ 1000000000) (ha : ascL s = true) (n : Nat) (hn : n < s.length) (L C : Int) (hb : Bnd s (1, 1) n (L, C)) (w : World) :
    Calls Tryz.prog 15 #[.string ⟨s.toArray⟩, .agg #[.int .i64 L, .int .i64 C]] w fun e w' => e = .returned (.int .i64 (n : Nat)) ∧ Below w.heap.size w w' := by
  obtain ⟨ta, hsz, hbw⟩ := box1 w #[.int .i64 L, .int .i64 C] 31
  have TA := Lib.hid ta
  have HB0 := Lib.hid hbw
  have HBN := Lib.hid hb
  have HA := Lib.hid ha
  clear ta hsz hbw hb ha
  go_enter Tryz.func15, Tryz.ntmps15
  go_wp2_with fail
  generalize w.alloc (.cells #[.int .i64 L, .int .i64 C] 31) = W at *
  go_loopw [5, 6, 7] (fun x y i wr => ∃ (k : Nat) (q0 q1 : Int), k ≤ n ∧ i = .int .i64 k ∧ x = .int .i64 q0 ∧ y = .int .i64 q1 ∧ 0 < q0 ∧ q0 ≤ 1 + k ∧ 0 < q1 ∧ q1 ≤ 1 + k ∧ Bnd s (1, 1) k (q0, q1) ∧ Below W.heap.size W wr) (fun _ _ i _ => n - (intOf i).toNat)
  case atStart => exact ⟨0, 1, 1, Nat.zero_le _, rfl, rfl, rfl, by decide, by decide, by decide, by decide, .zero _ _, Below.refl _ _⟩
  case round =>
    obtain ⟨k, q0, q1, hk, rfl, rfl, rfl, hq0, hq1, hq2, hq3, hbd, hbel⟩ := hrel
    have HBE := Lib.hid hbel
    obtain ⟨c0, c1, -, -⟩ := (TA.out.keep hbel (Nat.le_refl _)).two
    have hlt : (k : Int) < s.length := by omega
    have hkl : k < s.length := by omega
    have HBD := Lib.hid hbd
    clear hbel hbd
    by_cases hkn : k = n
    · have hq := HBN.out
      rw [← hkn] at hq
      have e : ((q0, q1) : Int × Int) = (L, C) := by
        have h1 := HBD.out.place _ (Nat.le_refl _)
        have h2 := hq.place _ (Nat.le_refl _)
        rw [h1] at h2
        exact Option.some.inj h2
      injection e with e1 e2
      have HKN := Lib.hid hkn
      clear hq hkn
      subst e1
      subst e2
      have g1 : (q0 == q0) = true := by simp
      have g2 : (q1 == q1) = true := by simp
      go_wp2_with fail
      go_ret
      exact ⟨by rw [HKN.out] <;> rfl, HB0.out.trans (HBE.out.mono HB0.out.size)⟩
    · have hne : ¬ (q0 = L ∧ q1 = C) := by
        rintro ⟨rfl, rfl⟩
        exact hkn (HBD.out.uniq HBN.out)
      have hget : (⟨s.toArray⟩ : ByteArray)[k]'hkl = s[k] := rfl
      have hasc := asc_at HA.out k hkl
      have hstep : Bnd s (1, 1) (k + 1) (nextP (q0, q1) s[k].toNat) := by
        have hd := List.drop_eq_getElem_cons hkl
        have e := dec_ascii s[k] (s.drop (k + 1)) (by omega)
        have h1 := Bnd.step (s.drop k) (q0, q1) 0 _ (by rw [hd]; exact List.cons_ne_nil _ _) (.zero _ _)
        rw [hd, e, ← hd] at h1
        exact HBD.out.trans h1
      have HST := Lib.hid hstep
      have hw1 : IntKind.i64.wrap (q1 + 1) = q1 + 1 := by unfold IntKind.wrap; simp [IntKind.bits, IntKind.signed]; omega
      have hw0 : IntKind.i64.wrap (q0 + 1) = q0 + 1 := by unfold IntKind.wrap; simp [IntKind.bits, IntKind.signed]; omega
      clear hstep hasc
      generalize s[k] = ch at *
      cases g10 : ((ch.toNat : Int) == 10)
      · have hnx : nextP (q0, q1) ch.toNat = (q0, q1 + 1) := by
          unfold nextP
          rw [beq_eq_false_iff_ne] at g10
          rw [if_neg (by omega)]
        have HNX := Lib.hid hnx
        clear hnx
        by_cases h1 : q0 = L
        · have g1 : (q0 == L) = true := by simp [h1]
          have g2 : (q1 == C) = false := by rw [beq_eq_false_iff_ne]; exact fun h2 => hne ⟨h1, h2⟩
          clear hne h1
          go_wp2_with fail
          go_roundw
          case rel => exact ⟨k + 1, q0, q1 + 1, by omega, by go_num, rfl, by first | rfl | go_num, hq0, by omega, by omega, by omega, by have := HST.out; rw [HNX.out] at this; exact this, HBE.out⟩
          case measure => simp [intOf]; omega
        · have g1 : (q0 == L) = false := by rw [beq_eq_false_iff_ne]; exact h1
          clear hne h1
          go_wp2_with fail
          go_roundw
          case rel => exact ⟨k + 1, q0, q1 + 1, by omega, by go_num, rfl, by first | rfl | go_num, hq0, by omega, by omega, by omega, by have := HST.out; rw [HNX.out] at this; exact this, HBE.out⟩
          case measure => simp [intOf]; omega
      · have hnx : nextP (q0, q1) ch.toNat = (q0 + 1, 1) := by
          unfold nextP
          rw [beq_iff_eq] at g10
          rw [if_pos (by omega)]
        have HNX := Lib.hid hnx
        clear hnx
        by_cases h1 : q0 = L
        · have g1 : (q0 == L) = true := by simp [h1]
          have g2 : (q1 == C) = false := by rw [beq_eq_false_iff_ne]; exact fun h2 => hne ⟨h1, h2⟩
          clear hne h1
          go_wp2_with fail
          go_roundw
          case rel => exact ⟨k + 1, q0 + 1, 1, by omega, by go_num, by first | rfl | go_num, rfl, by omega, by omega, by decide, by omega, by have := HST.out; rw [HNX.out] at this; exact this, HBE.out⟩
          case measure => simp [intOf]; omega
        · have g1 : (q0 == L) = false := by rw [beq_eq_false_iff_ne]; exact h1
          clear hne h1
          go_wp2_with fail
          go_roundw
          case rel => exact ⟨k + 1, q0 + 1, 1, by omega, by go_num, by first | rfl | go_num, rfl, by omega, by omega, by decide, by omega, by have := HST.out; rw [HNX.out] at this; exact this, HBE.out⟩
          case measure => simp [intOf]; omega
end Go.Proofs.YtmifjfohanegiaaGreatDoor
