/-
  The reference's ten, of greater numbers.
-/
import Derived.Test.YtajebceanonalaaGreatDoorTxtA
import Derived.Test.YtajebceanonalaaGreatDoorNatT
namespace Go.Proofs.YtajebceanonalaaGreatDoor
set_option linter.unusedVariables false
open Go.RowKit

theorem pow300 {j : Nat} (h : j ≤ 300) : (digs (10 ^ j)).length ≤ 32 := by
  refine (digs_len _ 32).2 (Nat.lt_of_le_of_lt (Nat.pow_le_pow_right (by decide) h) ?_)
  decide +kernel
set_option maxRecDepth 100000 in
set_option maxHeartbeats 2000000 in
theorem ten_big (k : Nat) (hk : k ≤ 300) (w : World) :
    Calls Tryz.prog 29 #[.int .i64 k] w (RetNat w (10 ^ k)) := by
  have cf1 : ∀ w, Calls Tryz.prog 26 #[.int .u64 1] w (RetNat w 1) := fun w => from_any 1 (by decide) w
  have cf10 : ∀ w, Calls Tryz.prog 26 #[.int .u64 10] w (RetNat w 10) := fun w => from_any 10 (by decide) w
  go_enter Tryz.func29, Tryz.ntmps29
  go_wp2_with fail
  with_reducible refine (cf1 _).mono ?_
  rintro e w1 ⟨v1, rfl, hn1, hf1, hb1⟩
  obtain ⟨a1, c1, rfl, hs1⟩ := hn1
  clear cf1
  go_wp2_with fail
  go_loopw [3, 4] (fun v i wr => ∃ j : Nat, i = .int .i64 (j : Nat) ∧ j ≤ k ∧ NatV wr v (10 ^ j) ∧ FreshV w.heap.size v ∧ Below w.heap.size w wr) (fun _ i _ => k - (intOf i).toNat)
  case atStart => exact ⟨0, rfl, Nat.zero_le _, ⟨a1, c1, rfl, hs1⟩, hf1, hb1⟩
  case round =>
    clear hs1 hf1 hb1
    obtain ⟨j, rfl, hj, ⟨a, c, rfl, hs⟩, hf, hb⟩ := hrel
    have HF := Lib.hid hf
    clear hf
    by_cases hlt : (j : Int) < k
    · have hl := pow300 (show j ≤ 300 by omega)
      go_wp2_with fail
      with_reducible refine (cf10 _).mono ?_
      rintro e w2 ⟨_, rfl, ⟨a2, c2, rfl, hs2⟩, hf2, hb2⟩
      have cx := times_any (10 ^ j) 10 a a2 c c2 (by omega) (by have := digs1 (n := 10) (by decide); omega) w2 (hs.keep hb2 (Nat.le_refl _)) hs2
      have HB := Lib.hid (bstep hb hb2 (Nat.le_refl _))
      clear hs hs2 hf2 hb2 hb hl
      go_wp2_with fail
      with_reducible refine cx.mono ?_
      rintro e w3 ⟨v3, rfl, hn3, hf3, hb3⟩
      have HN := Lib.hid hn3
      have HF3 := Lib.hid (fresh_low hf3 HB.out.size)
      have HB3 := Lib.hid (bstep HB.out hb3 (Nat.le_refl _))
      clear hn3 hf3 hb3 cx
      go_wp2_with fail
      go_roundw
      case rel => exact ⟨j + 1, by go_num, by omega, by rw [Nat.pow_succ]; exact HN.out, HF3.out, HB3.out⟩
      case measure => simp [intOf]; omega
    · obtain rfl : j = k := by omega
      go_wp2_with fail
      go_ret
      exact ⟨_, rfl, ⟨a, c, rfl, hs⟩, HF.out, hb⟩
end Go.Proofs.YtajebceanonalaaGreatDoor
