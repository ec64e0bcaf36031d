/-
  math/bits.Add64 and Sub64: the model's own entries, as laws of the call.
-/
import Derived.Test.YtajebceanonalaaGreatDoorRatE
namespace Go.Proofs.YtajebceanonalaaGreatDoor
set_option linter.unusedVariables false
open Go.RowKit

theorem add64_run (x y c : Nat) (hc : c ≤ 1) (w : World) :
    (callFunc 120 #[.int .u64 x, .int .u64 y, .int .u64 c]).run Tryz.prog w =
      .ok (.value (.tuple #[.int .u64 (((x + y + c) % 18446744073709551616 : Nat) : Int), .int .u64 (((x + y + c) / 18446744073709551616 : Nat) : Int)])) w := by
  rw [run_callFunc_extern Tryz.func120 (by kernel_rfl) (by kernel_rfl) (by kernel_rfl) (e := add64Entry) (by kernel_rfl), run_add64 x y c (by omega) (by omega) (by omega) (by omega)]
  simp only [Result.andThen]
  congr 5 <;> omega
theorem sub64_run (x y b : Nat) (hb : b ≤ 1) (w : World) :
    (callFunc 121 #[.int .u64 x, .int .u64 y, .int .u64 b]).run Tryz.prog w =
      .ok (.value (.tuple #[.int .u64 (((x + 18446744073709551616 - y - b) % 18446744073709551616 : Nat) : Int), .int .u64 ((if x < y + b then 1 else 0 : Nat) : Int)])) w := by
  rw [run_callFunc_extern Tryz.func121 (by kernel_rfl) (by kernel_rfl) (by kernel_rfl) (e := sub64Entry) (by kernel_rfl), run_sub64 x y b hb]
  rfl

/-! ### numbers of two words -/
theorem two_lt (P Q : Nat) : P < Q ↔ P / 18446744073709551616 < Q / 18446744073709551616 ∨ (P / 18446744073709551616 = Q / 18446744073709551616 ∧ P % 18446744073709551616 < Q % 18446744073709551616) := by omega
theorem two_mod (T g : Nat) : (T / 18446744073709551616 % g * 18446744073709551616 + T % 18446744073709551616) % g = T % g := by
  conv => rhs; rw [← Nat.div_add_mod T 18446744073709551616]
  rw [Nat.mul_comm, Nat.add_mod, Nat.mul_mod, Nat.mod_mod, ← Nat.mul_mod, ← Nat.add_mod]
theorem two_div_hi (T k : Nat) : T / k / 18446744073709551616 = T / 18446744073709551616 / k := by
  rw [Nat.div_div_eq_div_mul, Nat.div_div_eq_div_mul, Nat.mul_comm]
theorem two_div_lo (T k : Nat) (hk : 0 < k) : T / k % 18446744073709551616 = (T / 18446744073709551616 % k * 18446744073709551616 + T % 18446744073709551616) / k := by
  have h1 := Nat.div_add_mod T 18446744073709551616
  have h2 := Nat.div_add_mod (T / 18446744073709551616) k
  have h3 := Nat.mod_lt (T / 18446744073709551616) hk
  have h4 := Nat.mod_lt T (show 0 < 18446744073709551616 by decide)
  generalize T / 18446744073709551616 = h at *
  generalize T % 18446744073709551616 = l at *
  generalize h % k = r at *
  generalize h / k = c at *
  have e : T = k * (c * 18446744073709551616) + (r * 18446744073709551616 + l) := by
    rw [← Nat.mul_assoc]
    generalize k * c = X at *
    omega
  have h5 : (r * 18446744073709551616 + l) / k < 18446744073709551616 := by
    rw [Nat.div_lt_iff_lt_mul hk]
    have := Nat.mul_le_mul_left 18446744073709551616 (show r + 1 ≤ k from h3)
    omega
  rw [e, Nat.mul_add_div hk]
  clear e h1 h2 h4
  generalize (r * 18446744073709551616 + l) / k = z at *
  omega
end Go.Proofs.YtajebceanonalaaGreatDoor
