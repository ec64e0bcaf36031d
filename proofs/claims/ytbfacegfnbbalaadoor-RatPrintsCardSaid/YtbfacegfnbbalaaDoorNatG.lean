/-
  The reference's Lowest: contract.
-/
import Derived.Test.YtbfacegfnbbalaaDoorNatF
import Derived.Test.YtbfacegfnbbalaaDoorRatD
import Derived.Test.YtbfacegfnbbalaaDoorBaseD
namespace Go.Proofs.YtbfacegfnbbalaaDoor
set_option linter.unusedVariables false
open Go.RowKit

/-- the reference's answer: a fraction and an error's number -/
def refV (r : Option (Int × Int)) : Value :=
  match r with
  | some (n, d) => .tuple #[.agg #[.int .i64 n, .int .i64 d], .int .i64 0]
  | none => .tuple #[.agg #[.int .i64 0, .int .i64 0], .int .i64 9]

theorem frac_zero (neg : Bool) (D : Nat) : frac neg 0 D = some (0, 1) := by
  unfold frac; rw [Nat.zero_div]; exact fitE_zero _ _
theorem lowest_val (neg : Bool) (N D p : Nat) (h : ComOK N D p) (hN : N ≠ 0) (hD : 0 < D) :
    frac neg N D = (if 9223372036854775807 < D / p ∨ 9223372036854775808 < N / p ∨ (N / p = 9223372036854775808 ∧ neg = false) then none else some (sgn neg (N / p), ((D / p : Nat) : Int))) ∧ 0 < p := by
  have hg : 0 < Nat.gcd N D := Nat.gcd_pos_of_pos_right N hD
  rcases h with rfl | ⟨hp, hdv, hle⟩
  · refine ⟨?_, hg⟩
    have h0 : N / Nat.gcd N D ≠ 0 := by
      have h1 := Nat.div_mul_cancel (Nat.gcd_dvd_left N D)
      intro h2
      rw [h2] at h1
      simp at h1
      omega
    unfold frac fitE
    rw [if_neg h0]
  · have h1 : 18446744073709551616 ≤ D / p := by rw [Nat.le_div_iff_mul_le hp, Nat.mul_comm]; exact hle
    have h2 : D / p ≤ D / Nat.gcd N D := Nat.div_le_div_left (Nat.le_of_dvd hp hdv) hg
    refine ⟨?_, hp⟩
    rw [if_pos (.inl (by omega))]
    have h0 : N / Nat.gcd N D ≠ 0 := by
      have h1 := Nat.div_mul_cancel (Nat.gcd_dvd_left N D)
      intro h2
      rw [h2] at h1
      simp at h1
      omega
    unfold frac fitE
    rw [if_neg h0, if_pos (.inl (by omega))]
theorem neg_back (k : Nat) (h : k ≤ 9223372036854775808) : wrap64 (-(wrap64 (k : Int))) = -(k : Int) := by
  unfold wrap64; omega

end Go.Proofs.YtbfacegfnbbalaaDoor
