/-
  The reference's isDigit, digits, power: contracts.
-/
import Derived.Test.YtajebceanonalaaGreatDoorTxtF

namespace Go.Proofs.YtajebceanonalaaGreatDoor
set_option linter.unusedVariables false
open Go.RowKit

set_option maxRecDepth 100000 in
theorem isDigit_any (c : UInt8) (w : World) :
    Calls Tryz.prog 108 #[.int .u8 (c.toNat : Nat)] w fun e w' => e = .returned (.bool (isDg c)) ∧ w' = w := by
  have HI := Lib.hid (isDg_iff c)
  obtain ⟨b, hb⟩ : ∃ b, b = isDg c := ⟨_, rfl⟩
  rw [← hb]
  have HB := Lib.hid hb
  clear hb
  generalize hm : c.toNat = m at *
  by_cases h1 : (48 : Int) ≤ m
  · by_cases h2 : (m : Int) ≤ 57
    · have HT := Lib.hid (show b = true by rw [HB.out]; exact HI.out.2 ⟨by omega, by omega⟩)
      clear HI HB hm
      go_enter Tryz.func108, Tryz.ntmps108
      go_wp2_with fail
      go_ret
      exact ⟨by rw [HT.out]; rfl, rfl⟩
    · have HT := Lib.hid (show b = false by rw [HB.out, Bool.eq_false_iff]; intro h; have := HI.out.1 h; omega)
      clear HI HB hm
      go_enter Tryz.func108, Tryz.ntmps108
      go_wp2_with fail
      go_ret
      exact ⟨by rw [HT.out]; rfl, rfl⟩
  · have HT := Lib.hid (show b = false by rw [HB.out, Bool.eq_false_iff]; intro h; have := HI.out.1 h; omega)
    clear HI HB hm
    go_enter Tryz.func108, Tryz.ntmps108
    go_wp2_with fail
    go_ret
    exact ⟨by rw [HT.out]; rfl, rfl⟩

set_option maxRecDepth 100000 in
set_option maxHeartbeats 2000000 in
theorem digits_any (s : List UInt8) (i : Nat) (hs : s.length ≤ 1000000) (hi : i ≤ s.length) (w : World) :
    Calls Tryz.prog 65 #[.string ⟨s.toArray⟩, .int .i64 i] w fun e w' => e = .returned (.int .i64 (i + (tw (s.drop i)).length : Nat)) ∧ w' = w := by
  obtain ⟨T, hT⟩ : ∃ T, T = i + (tw (s.drop i)).length := ⟨_, rfl⟩
  rw [← hT]
  have HT := Lib.hid hT
  clear hT
  go_enter Tryz.func65, Tryz.ntmps65
  go_wp2_with fail
  go_loopw [1] (fun x wr => ∃ k : Nat, x = .int .i64 (k : Nat) ∧ k ≤ s.length ∧ T = k + (tw (s.drop k)).length ∧ wr = w) (fun x _ => s.length - (intOf x).toNat)
  case atStart => exact ⟨i, rfl, hi, HT.out, rfl⟩
  case round =>
    obtain ⟨k, rfl, hk, hTk, rfl⟩ := hrel
    by_cases hlt : (k : Int) < s.length
    · have hlt' : k < s.length := by omega
      have hget : (⟨s.toArray⟩ : ByteArray)[k]'hlt' = s[k] := rfl
      have hd := List.drop_eq_getElem_cons hlt'
      rw [hd] at hTk
      generalize s[k] = c at *
      have cd := isDigit_any c
      cases hc : isDg c
      · rw [tw_stop hc] at hTk
        have HTK := Lib.hid (show T = k from hTk)
        rw [hc] at cd
        clear hd hTk hc HT
        go_wp2_with fail
        with_reducible refine (cd _).mono ?_
        rintro e w1 ⟨rfl, rfl⟩
        clear cd
        go_wp2_with fail
        go_ret
        exact ⟨by rw [HTK.out]; rfl, rfl⟩
      · rw [tw_cons hc] at hTk
        have HTK := Lib.hid (show T = k + 1 + (tw (s.drop (k + 1))).length by rw [hTk, List.length_cons]; omega)
        rw [hc] at cd
        clear hd hTk hc
        go_wp2_with fail
        with_reducible refine (cd _).mono ?_
        rintro e w1 ⟨rfl, rfl⟩
        clear cd
        go_wp2_with fail
        go_roundw
        case rel => exact ⟨k + 1, by first | rfl | go_num, by omega, HTK.out, trivial⟩
        case measure => (simp [intOf] <;> omega)
    · have HTK := Lib.hid (show T = k by rw [hTk, show k = s.length by omega, List.drop_length]; rfl)
      clear hTk HT
      go_wp2_with fail
      go_ret
      exact ⟨by rw [HTK.out]; rfl, rfl⟩

set_option maxRecDepth 100000 in
set_option maxHeartbeats 2000000 in
theorem power_any (l : List UInt8) (hl : l.length ≤ 1000000) (hd : digL l) (w : World) :
    Calls Tryz.prog 27 #[.string ⟨l.toArray⟩] w fun e w' => e = .returned (.int .i64 (powL l : Nat)) ∧ w' = w := by
  obtain ⟨T, hT⟩ : ∃ T, T = powL l := ⟨_, rfl⟩
  rw [← hT]
  have HT := Lib.hid hT
  have HD := Lib.hid hd
  clear hT hd
  go_enter Tryz.func27, Tryz.ntmps27
  go_wp2_with fail
  go_loopw [3, 4] (fun n x wr => ∃ k p : Nat, n = .int .i64 (p : Nat) ∧ x = .int .i64 (k : Nat) ∧ k ≤ l.length ∧ p ≤ 1000 ∧ p = powL (l.take k) ∧ wr = w) (fun _ x _ => l.length - (intOf x).toNat)
  case atStart => exact ⟨0, 0, rfl, rfl, Nat.zero_le _, by decide, rfl, rfl⟩
  case round =>
    obtain ⟨k, p, rfl, rfl, hk, hp, hpk, rfl⟩ := hrel
    by_cases hlt : (k : Int) < l.length
    · have hlt' : k < l.length := by omega
      have hget : (⟨l.toArray⟩ : ByteArray)[k]'hlt' = l[k] := rfl
      have hc := (isDg_iff l[k]).1 (HD.out _ (List.getElem_mem hlt'))
      have hsn : powL (l.take (k + 1)) = min (10 * p + (l[k].toNat - 48)) 1000 := by
        rw [List.take_succ_eq_append_getElem hlt', hpk]
        unfold powL powS
        rw [List.foldl_append]; rfl
      have HSN := Lib.hid hsn
      clear hsn hpk
      generalize l[k] = c at *
      have h1 : (48 : Int) ≤ c.toNat := by omega
      have h2 : (c.toNat : Int) ≤ 57 := by omega
      go_wp2_with fail
      go_roundw
      case rel => exact ⟨k + 1, min (10 * p + (c.toNat - 48)) 1000, (by show Value.int _ _ = Value.int _ _; congr 1; omega), by first | rfl | go_num, by omega, by omega, HSN.out.symm, trivial⟩
      case measure => (simp [intOf] <;> omega)
    · have HTK := Lib.hid (show T = p by rw [HT.out, hpk, show k = l.length by omega, List.take_length])
      clear hpk HT
      go_wp2_with fail
      go_ret
      exact ⟨by rw [HTK.out]; rfl, rfl⟩
end Go.Proofs.YtajebceanonalaaGreatDoor
