/-
  The product of rows of digits. (No program here.)
-/
import Derived.Test.YtajebceanonalaaGreatDoorNatN
namespace Go.Proofs.YtajebceanonalaaGreatDoor
set_option linter.unusedVariables false

/-- the row that the product is laid in: i digits of the one number, k of the next one's are worked in -/
structure MulS (m n L i k : Nat) (xs : List Nat) (c : Nat) : Prop where
  len : xs.length = L
  ok : okD xs
  car : c < 4294967296
  val : valD xs + c * 4294967296 ^ (i + k) = (m % 4294967296 ^ i) * n + 4294967296 ^ i * (m / 4294967296 ^ i % 4294967296) * (n % 4294967296 ^ k)
  high : ∀ j, (h : j < xs.length) → i + (digs n).length ≤ j → xs[j] = 0
/-- between two digits of the one number -/
structure MulR (m n L i : Nat) (xs : List Nat) : Prop where
  len : xs.length = L
  ok : okD xs
  val : valD xs = (m % 4294967296 ^ i) * n
  high : ∀ j, (h : j < xs.length) → i + (digs n).length ≤ j → xs[j] = 0

theorem mulR_start (m n L : Nat) : MulR m n L 0 (List.replicate L 0) :=
  ⟨List.length_replicate, fun x hx => by rw [(List.mem_replicate.1 hx).2]; decide, by rw [valD_zeros]; simp [Nat.mod_one], fun j h _ => by simp⟩
theorem mulR_in {m n L i : Nat} {xs : List Nat} (h : MulR m n L i xs) : MulS m n L i 0 xs 0 :=
  ⟨h.len, h.ok, by decide, by rw [h.val]; simp [Nat.mod_one], h.high⟩
theorem mulR_end {m n L i : Nat} {xs : List Nat} (h : MulR m n L i xs) (hi : (digs m).length ≤ i) : valD xs = m * n := by
  rw [h.val, lt_pow_len hi]

theorem mul_fits {x y l c : Nat} (hx : x < 4294967296) (hy : y < 4294967296) (hl : l < 4294967296) (hc : c < 4294967296) : x * y + l + c < 18446744073709551616 := by
  have := Nat.mul_le_mul (show x ≤ 4294967295 by omega) (show y ≤ 4294967295 by omega)
  omega
/-- a digit more -/
theorem mulS_step {m n L i k : Nat} {xs : List Nat} {c : Nat} (h : MulS m n L i k xs c) (hL : i + k < L) (hk : k < (digs n).length) (N : Nat)
    (hN : N = m / 4294967296 ^ i % 4294967296 * (n / 4294967296 ^ k % 4294967296) + xs[i + k]'(by rw [h.len]; exact hL) + c) :
    MulS m n L i (k + 1) (xs.set (i + k) (N % 4294967296)) (N / 4294967296) ∧ N < 18446744073709551616 := by
  have hl : i + k < xs.length := by rw [h.len]; exact hL
  have hx := Nat.mod_lt (m / 4294967296 ^ i) (show 0 < 4294967296 by decide)
  have hy := Nat.mod_lt (n / 4294967296 ^ k) (show 0 < 4294967296 by decide)
  have hlt := h.ok xs[i + k] (List.getElem_mem _)
  have hset := valD_set xs (i + k) hl (N % 4294967296)
  have hfit := mul_fits hx hy hlt h.car
  rw [← hN] at hfit
  refine ⟨⟨by rw [List.length_set]; exact h.len, okD_set h.ok _ (Nat.mod_lt _ (by decide)), by omega, ?_, ?_⟩, hfit⟩
  · rw [pow_split n k, ← Nat.add_assoc, Nat.pow_succ 4294967296 (i + k), Nat.mul_add, ← Nat.add_assoc, ← h.val]
    have hp : 4294967296 ^ i * (m / 4294967296 ^ i % 4294967296) * (4294967296 ^ k * (n / 4294967296 ^ k % 4294967296)) = 4294967296 ^ (i + k) * (m / 4294967296 ^ i % 4294967296 * (n / 4294967296 ^ k % 4294967296)) := by
      rw [Nat.pow_add, Nat.mul_mul_mul_comm]
    rw [hp]
    generalize 4294967296 ^ (i + k) = p at *
    generalize m / 4294967296 ^ i % 4294967296 * (n / 4294967296 ^ k % 4294967296) = xy at *
    generalize xs[i + k] = l at *
    have e1 := Nat.mod_add_div N 4294967296
    have e2 : p * (N % 4294967296) + N / 4294967296 * (p * 4294967296) = p * N := by
      conv => rhs; rw [← e1]
      rw [Nat.mul_add, Nat.mul_left_comm (N / 4294967296), Nat.mul_comm (N / 4294967296) 4294967296]
    have e3 : p * N = p * xy + p * l + c * p := by rw [hN, Nat.mul_add, Nat.mul_add, Nat.mul_comm c p]
    omega
  · intro j hj hij
    rw [List.length_set] at hj
    rw [List.getElem_set_ne (by omega)]
    exact h.high j hj hij
/-- a row is through -/
theorem mulS_out {m n L i : Nat} {xs : List Nat} {c : Nat} (h : MulS m n L i (digs n).length xs c) (hL : i + (digs n).length < L) :
    MulR m n L (i + 1) (xs.set (i + (digs n).length) c) := by
  have hl : i + (digs n).length < xs.length := by rw [h.len]; exact hL
  have hset := valD_set xs (i + (digs n).length) hl c
  rw [h.high _ hl (Nat.le_refl _), Nat.mul_zero, Nat.add_zero, Nat.mul_comm _ c, h.val, lt_pow_len (Nat.le_refl _)] at hset
  refine ⟨by rw [List.length_set]; exact h.len, okD_set h.ok _ h.car, ?_, ?_⟩
  · rw [hset, pow_split m i, Nat.add_mul]
  · intro j hj hij
    rw [List.length_set] at hj
    rw [List.getElem_set_ne (by omega)]
    exact h.high j hj (by omega)
theorem mulS_out' {m n L i J : Nat} {xs : List Nat} {c : Nat} (hJ : (digs n).length = J) (h : MulS m n L i J xs c) (hL : i + J < L) : MulR m n L (i + 1) (xs.set (i + J) c) := by
  subst hJ; exact mulS_out h hL
end Go.Proofs.YtajebceanonalaaGreatDoor
