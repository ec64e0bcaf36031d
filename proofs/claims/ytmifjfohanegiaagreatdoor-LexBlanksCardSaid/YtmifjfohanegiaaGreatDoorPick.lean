/-
  Contract of busbarkit's Pick.
-/
import Derived.Test.YtmifjfohanegiaaGreatDoorRows
import Derived.Test.YtmifjfohanegiaaGreatDoorBaseB
namespace Go.Proofs.YtmifjfohanegiaaGreatDoor
set_option linter.unusedVariables false
open Go.RowKit

set_option maxHeartbeats 1000000 in
theorem pick_any (n : Int) (hn : -9223372036854775808 ≤ n ∧ n ≤ 9223372036854775807) (m : Nat) (hm : 0 < m) (hm2 : m < 9223372036854775807) (w : World) :
    Calls Tryz.prog 22 #[.int .i64 n, .int .i64 m] w fun e w' => ∃ k : Nat, k < m ∧ e = .returned (.int .i64 k) ∧ Below w.heap.size w w' := by
  have h1 : n.tmod (m : Int) < m := Int.tmod_lt_of_pos n (by omega)
  have h2 : -(m : Int) < n.tmod (m : Int) := by
    have := Int.tmod_lt_of_pos (-n) (show (0 : Int) < m by omega)
    rw [Int.neg_tmod] at this
    omega
  obtain ⟨r, hr⟩ : ∃ r, n.tmod (m : Int) = r := ⟨_, rfl⟩
  rw [hr] at h1 h2
  go_enter Tryz.func22, Tryz.ntmps22
  by_cases hneg : r < 0
  · go_wp2
    go_ret
    obtain ⟨k, hk⟩ := Int.eq_ofNat_of_zero_le (show 0 ≤ r + (m : Int) by omega)
    exact ⟨k, by omega, by rw [hk]; rfl, Below.refl _ _⟩
  · go_wp2
    go_ret
    obtain ⟨k, hk⟩ := Int.eq_ofNat_of_zero_le (show 0 ≤ r by omega)
    exact ⟨k, by omega, by rw [hk]; rfl, Below.refl _ _⟩


def pickN (n : Int) (m : Nat) : Nat := if n.tmod (m : Int) < 0 then (n.tmod (m : Int) + m).toNat else (n.tmod (m : Int)).toNat
theorem pickN_lt (n : Int) (m : Nat) (hm : 0 < m) : pickN n m < m := by
  have h1 : n.tmod (m : Int) < m := Int.tmod_lt_of_pos n (by omega)
  unfold pickN
  split <;> omega

set_option maxHeartbeats 1000000 in
theorem pick_fn (n : Int) (hn : -9223372036854775808 ≤ n ∧ n ≤ 9223372036854775807) (m : Nat) (hm : 0 < m) (hm2 : m < 9223372036854775807) (w : World) :
    Calls Tryz.prog 22 #[.int .i64 n, .int .i64 m] w fun e w' => e = .returned (.int .i64 (pickN n m : Nat)) ∧ w' = w := by
  have h1 : n.tmod (m : Int) < m := Int.tmod_lt_of_pos n (by omega)
  have h2 : -(m : Int) < n.tmod (m : Int) := by
    have := Int.tmod_lt_of_pos (-n) (show (0 : Int) < m by omega)
    rw [Int.neg_tmod] at this
    omega
  unfold pickN
  obtain ⟨r, hr⟩ : ∃ r, n.tmod (m : Int) = r := ⟨_, rfl⟩
  rw [hr] at h1 h2 ⊢
  by_cases hneg : r < 0
  · have hk := Int.toNat_of_nonneg (show 0 ≤ r + (m : Int) by omega)
    rw [if_pos hneg]
    generalize (r + (m : Int)).toNat = k at *
    have HK := Lib.hid hk
    clear hk
    go_enter Tryz.func22, Tryz.ntmps22
    go_wp2
    go_ret
    exact ⟨by rw [HK.out]; rfl, rfl⟩
  · have hk := Int.toNat_of_nonneg (show 0 ≤ r by omega)
    rw [if_neg hneg]
    generalize r.toNat = k at *
    have HK := Lib.hid hk
    clear hk
    go_enter Tryz.func22, Tryz.ntmps22
    go_wp2
    go_ret
    exact ⟨by rw [HK.out]; rfl, rfl⟩
end Go.Proofs.YtmifjfohanegiaaGreatDoor
