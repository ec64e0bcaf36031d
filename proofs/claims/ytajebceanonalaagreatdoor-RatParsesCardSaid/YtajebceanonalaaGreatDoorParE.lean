/-
  The plain law of the reference's Parse: its limits take nothing away.
-/
import Derived.Test.YtajebceanonalaaGreatDoorParP
namespace Go.Proofs.YtajebceanonalaaGreatDoor
set_option linter.unusedVariables false
open Go.RowKit

theorem over_hi {neg : Bool} {n : Nat} {e : Int} (hn : 0 < n) (he : 100 < e) : parseF neg n e = none := by
  unfold parseF
  rw [show (-e).toNat = 0 by omega, Nat.pow_zero, frac_over_num]
  have h1 : 10 ^ 20 ≤ 10 ^ e.toNat := Nat.pow_le_pow_right (by decide) (by omega)
  have h2 : 10 ^ e.toNat ≤ n * 10 ^ e.toNat := Nat.le_mul_of_pos_left _ hn
  exact Nat.lt_of_lt_of_le (by decide) (Nat.le_trans h1 h2)
theorem over_lo {neg : Bool} {n : Nat} {e : Int} (hn : 0 < n) (hn2 : n < 10 ^ 96) (he : e < -200) : parseF neg n e = none := by
  obtain ⟨v, z, h1, h2, h3⟩ := strip_tens n hn
  have hz : z < 96 := by
    apply (Nat.pow_lt_pow_iff_right (by decide : 1 < 10)).1
    refine Nat.lt_of_le_of_lt ?_ hn2
    rw [h1]; exact Nat.le_mul_of_pos_left _ h3
  rw [h1, parseF_shift]
  unfold parseF
  rw [show (e + z).toNat = 0 by omega, Nat.pow_zero, Nat.mul_one, frac_over_den h2 (by omega)]
end Go.Proofs.YtajebceanonalaaGreatDoor
