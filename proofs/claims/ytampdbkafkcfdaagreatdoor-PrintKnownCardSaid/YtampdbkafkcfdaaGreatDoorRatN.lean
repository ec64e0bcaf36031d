/-
  The mathematics of math/bits.Div64. (No program here.)
-/
import Derived.Test.YtampdbkafkcfdaaGreatDoorParR
import Derived.Lib.ItoaNum
import Derived.Laws.Bits64b

namespace Go.Proofs.YtampdbkafkcfdaaGreatDoor
set_option linter.unusedVariables false

theorem pow64 (s : Nat) (hs : s ≤ 63) : 2 ^ (64 - s) * 2 ^ s = 18446744073709551616 := by
  rw [← Nat.pow_add, Nat.sub_add_cancel (by omega)]
theorem clz_bd (y : Nat) (h0 : 0 < y) (hy : y < 18446744073709551616) : ∃ s : Nat, s ≤ 63 ∧ (64 - (Lib.bitLen y : Int)) = s ∧ 9223372036854775808 ≤ y * 2 ^ s ∧ y * 2 ^ s < 18446744073709551616 := by
  obtain ⟨h1, h2, h3⟩ := Lib.bitLenAux_bounds 64 y hy (by omega)
  have h4 := Lib.bitLen_le y 64 (Nat.le_refl _) hy
  unfold Lib.bitLen at *
  generalize Lib.bitLenAux 64 y = k at *
  refine ⟨64 - k, by omega, by omega, ?_, ?_⟩
  · have : 2 ^ (k - 1) * 2 ^ (64 - k) ≤ y * 2 ^ (64 - k) := Nat.mul_le_mul_right _ h2
    rw [← Nat.pow_add, show k - 1 + (64 - k) = 63 by omega] at this
    exact this
  · have : y * 2 ^ (64 - k) < 2 ^ k * 2 ^ (64 - k) := Nat.mul_lt_mul_of_pos_right h3 (Nat.pow_pos (by decide))
    rw [← Nat.pow_add, show k + (64 - k) = 64 by omega] at this
    exact this

/-- what Div64 reckons with: the divisor made great, the dividend with it -/
structure DivN (hi lo y s Y U L : Nat) : Prop where
  s63 : s ≤ 63
  eY : Y = y * 2 ^ s
  lo1 : 9223372036854775808 ≤ Y
  hi1 : Y < 18446744073709551616
  eU : U = hi * 2 ^ s + lo / 2 ^ (64 - s)
  lt : U < Y
  eL : L = lo * 2 ^ s % 18446744073709551616
  all : (hi * 18446744073709551616 + lo) * 2 ^ s = U * 18446744073709551616 + L
  ltHI : hi * 2 ^ s < 18446744073709551616
  or' : hi * 2 ^ s ||| lo / 2 ^ (64 - s) = U

theorem divN_of (hi lo y s : Nat) (hs : s ≤ 63) (hh : hi < y) (hlo : lo < 18446744073709551616) (h1 : 9223372036854775808 ≤ y * 2 ^ s) (h2 : y * 2 ^ s < 18446744073709551616) :
    DivN hi lo y s (y * 2 ^ s) (hi * 2 ^ s + lo / 2 ^ (64 - s)) (lo * 2 ^ s % 18446744073709551616) := by
  have hp := pow64 s hs
  have p0 : 0 < 2 ^ s := Nat.pow_pos (by decide)
  have p1 : 0 < 2 ^ (64 - s) := Nat.pow_pos (by decide)
  have e1 : lo * 2 ^ s / 18446744073709551616 = lo / 2 ^ (64 - s) := by rw [← hp, Nat.mul_div_mul_right _ _ p0]
  have e2 : lo / 2 ^ (64 - s) < 2 ^ s := by rw [Nat.div_lt_iff_lt_mul p1, Nat.mul_comm, hp]; exact hlo
  have e3 : hi * 2 ^ s + 2 ^ s ≤ y * 2 ^ s := by
    have : (hi + 1) * 2 ^ s ≤ y * 2 ^ s := Nat.mul_le_mul_right _ hh
    rwa [Nat.add_mul, Nat.one_mul] at this
  refine ⟨hs, rfl, h1, h2, rfl, by omega, rfl, ?_, by omega, ?_⟩
  · have := Nat.div_add_mod (lo * 2 ^ s) 18446744073709551616
    rw [e1] at this
    rw [Nat.add_mul, Nat.add_mul]
    have e4 : hi * 18446744073709551616 * 2 ^ s = hi * 2 ^ s * 18446744073709551616 := by rw [Nat.mul_assoc, Nat.mul_assoc, Nat.mul_comm 18446744073709551616]
    rw [e4]
    omega
  · have := Nat.shiftLeft_add_eq_or_of_lt e2 hi
    rw [Nat.shiftLeft_eq] at this
    exact this.symm

theorem div_end {hi lo y s Y U L : Nat} (h : DivN hi lo y s Y U L) (q1 r1 q0 r0 : Nat) (e1 : q1 = (U * 4294967296 + L / 4294967296) / Y) (e2 : r1 = (U * 4294967296 + L / 4294967296) % Y)
    (e3 : q0 = (r1 * 4294967296 + L % 4294967296) / Y) (e4 : r0 = (r1 * 4294967296 + L % 4294967296) % Y) :
    (hi * 18446744073709551616 + lo) / y = q1 * 4294967296 + q0 ∧ (hi * 18446744073709551616 + lo) % y = r0 / 2 ^ s := by
  obtain ⟨h1, h2, h3, h4, h5, h6, h7, h8, _, _⟩ := h
  have p0 : 0 < 2 ^ s := Nat.pow_pos (by decide)
  have a1 := Nat.div_add_mod (U * 4294967296 + L / 4294967296) Y
  have a2 := Nat.div_add_mod (r1 * 4294967296 + L % 4294967296) Y
  have a3 := Nat.mod_lt (r1 * 4294967296 + L % 4294967296) (show 0 < Y by omega)
  rw [← e1, ← e2] at a1
  rw [← e3, ← e4] at a2
  rw [← e4] at a3
  have a4 : (hi * 18446744073709551616 + lo) * 2 ^ s = Y * (q1 * 4294967296 + q0) + r0 := by
    rw [h8, Nat.mul_add, ← Nat.mul_assoc]
    clear e1 e2 e3 e4 h5 h7 h2 h8
    generalize Y * q1 = A at *
    generalize Y * q0 = C at *
    omega
  have d1 := Nat.mul_div_mul_right (hi * 18446744073709551616 + lo) y p0
  have d2 := Nat.mul_mod_mul_right (2 ^ s) (hi * 18446744073709551616 + lo) y
  rw [← h2, a4] at d1 d2
  rw [Nat.mul_add_div (by omega), Nat.div_eq_of_lt a3] at d1
  rw [Nat.mul_add_mod, Nat.mod_eq_of_lt a3] at d2
  exact ⟨by omega, by rw [d2, Nat.mul_div_cancel _ p0]⟩

theorem mask32 (a : Nat) (ha : a < 18446744073709551616) : bits .and .u64 (a : Int) 4294967295 = ((a % 4294967296 : Nat) : Int) := by
  have h := bits_and_u64_nat a 4294967295 ha (by omega)
  have e : a &&& 4294967295 = a % 4294967296 := Nat.and_two_pow_sub_one_eq_mod a 32
  rw [e] at h
  exact h
theorem wrapN (a : Nat) (ha : a < 18446744073709551616) : IntKind.u64.wrap (a : Int) = (a : Int) := by rw [IntKind.wrap_u64]; omega
theorem wrapM (a : Nat) : IntKind.u64.wrap (a : Int) = ((a % 18446744073709551616 : Nat) : Int) := by rw [IntKind.wrap_u64]; omega
end Go.Proofs.YtampdbkafkcfdaaGreatDoor
