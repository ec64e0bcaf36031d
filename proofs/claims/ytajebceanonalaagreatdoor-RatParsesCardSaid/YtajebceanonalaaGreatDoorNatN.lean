/-
  The bitwise division of rows of digits. (No program here.)
-/
import Derived.Test.YtajebceanonalaaGreatDoorNatM
namespace Go.Proofs.YtajebceanonalaaGreatDoor
set_option linter.unusedVariables false

theorem p32' : (2 : Nat) ^ 32 = 4294967296 := by decide +kernel
theorem powB (j : Nat) : 4294967296 ^ j = 2 ^ (32 * j) := by rw [Nat.pow_mul, p32']

theorem digit_val {l : List Nat} (hl : okD l) (j : Nat) (hj : j < l.length) : l[j] = valD l / 4294967296 ^ j % 4294967296 := by
  induction l generalizing j with
  | nil => simp at hj
  | cons d l ih =>
    have h1 := hl d (by simp)
    cases j with
    | zero => rw [List.getElem_cons_zero, valD, Nat.pow_zero, Nat.div_one]; omega
    | succ j =>
      rw [List.getElem_cons_succ, ih (fun x hx => hl x (by simp [hx])) j (by simpa using hj), valD, Nat.pow_succ, Nat.mul_comm (4294967296 ^ j), ← Nat.div_div_eq_div_mul]
      congr 2
      omega

theorem valD_set (l : List Nat) (j : Nat) (hj : j < l.length) (y : Nat) : valD (l.set j y) + 4294967296 ^ j * l[j] = valD l + 4294967296 ^ j * y := by
  induction l generalizing j with
  | nil => simp at hj
  | cons d l ih =>
    cases j with
    | zero => simp [valD]; omega
    | succ j =>
      have := ih j (by simpa using hj)
      rw [List.set_cons_succ, valD, valD, List.getElem_cons_succ, Nat.pow_succ, Nat.mul_comm (4294967296 ^ j), Nat.mul_assoc, Nat.mul_assoc]
      omega

theorem bit_val (m i : Nat) : m / 4294967296 ^ (i / 32) % 4294967296 / 2 ^ (i % 32) % 2 = m / 2 ^ i % 2 := by
  have hs : i % 32 < 32 := Nat.mod_lt _ (by decide)
  have e : i = 32 * (i / 32) + i % 32 := (Nat.div_add_mod i 32).symm
  have e1 : m / 2 ^ i = m / 4294967296 ^ (i / 32) / 2 ^ (i % 32) := by
    conv => lhs; rw [e]
    rw [powB, Nat.pow_add, Nat.div_div_eq_div_mul]
  rw [e1]
  generalize m / 4294967296 ^ (i / 32) = x
  generalize i % 32 = s at *
  have e2 : (4294967296 : Nat) = 2 ^ s * 2 ^ (32 - s) := by rw [← Nat.pow_add, show s + (32 - s) = 32 by omega, p32']
  rw [e2, Nat.mod_mul_right_div_self]
  have e3 : (2 : Nat) ^ (32 - s) = 2 * 2 ^ (31 - s) := by rw [show 32 - s = (31 - s) + 1 by omega, Nat.pow_succ, Nat.mul_comm]
  rw [e3, Nat.mod_mul_right_mod]

/-- a bit that isn't there yet -/
theorem or_bit {x s : Nat} (h : 2 ^ (s + 1) ∣ x) : x ||| 2 ^ s = x + 2 ^ s := by
  obtain ⟨c, rfl⟩ := h
  have := Nat.shiftLeft_add_eq_or_of_lt (i := s + 1) (b := 2 ^ s) (Nat.pow_lt_pow_right (by decide) (by omega)) c
  rw [Nat.shiftLeft_eq, Nat.mul_comm] at this
  exact this.symm

theorem digit_low {v i Q : Nat} (hv : v = 2 ^ (i + 1) * Q) : 2 ^ (i % 32 + 1) ∣ v / 4294967296 ^ (i / 32) % 4294967296 := by
  have hs : i % 32 < 32 := Nat.mod_lt _ (by decide)
  have e : i + 1 = 32 * (i / 32) + (i % 32 + 1) := by have := Nat.div_add_mod i 32; omega
  have e3 : 2 ^ (32 * (i / 32) + (i % 32 + 1)) = 4294967296 ^ (i / 32) * 2 ^ (i % 32 + 1) := by rw [Nat.pow_add 2 (32 * (i / 32)), ← powB]
  rw [hv, e, e3, Nat.mul_assoc, Nat.mul_div_cancel_left _ (Nat.pow_pos (by decide))]
  generalize i % 32 = s at *
  have e2 : (4294967296 : Nat) = 2 ^ (s + 1) * 2 ^ (31 - s) := by rw [← Nat.pow_add, show s + 1 + (31 - s) = 32 by omega, p32']
  rw [e2, Nat.mul_mod_mul_left]
  exact ⟨_, rfl⟩

/-- what the division has when i bits are left -/
structure DivS (m n i v r : Nat) : Prop where
  lt : r < n
  ex : ∃ Q, v = 2 ^ i * Q ∧ Q * n + r = m / 2 ^ i
theorem div_bit {m i : Nat} : m / 2 ^ i = 2 * (m / 2 ^ (i + 1)) + m / 2 ^ i % 2 := by
  rw [Nat.pow_succ, ← Nat.div_div_eq_div_mul]
  omega
theorem divS_no {m n i v r : Nat} (h : DivS m n (i + 1) v r) (hlt : r + r + m / 2 ^ i % 2 < n) : DivS m n i v (r + r + m / 2 ^ i % 2) := by
  obtain ⟨h1, Q, h2, h3⟩ := h
  refine ⟨hlt, 2 * Q, by rw [h2, Nat.pow_succ, Nat.mul_assoc], ?_⟩
  conv => rhs; rw [div_bit, ← h3]
  rw [Nat.mul_assoc]
  omega
theorem divS_yes {m n i v r : Nat} (h : DivS m n (i + 1) v r) (hge : n ≤ r + r + m / 2 ^ i % 2) : DivS m n i (v + 2 ^ i) (r + r + m / 2 ^ i % 2 - n) := by
  obtain ⟨h1, Q, h2, h3⟩ := h
  have hb : m / 2 ^ i % 2 < 2 := Nat.mod_lt _ (by decide)
  refine ⟨by omega, 2 * Q + 1, by rw [h2, Nat.pow_succ, Nat.mul_add, Nat.mul_assoc, Nat.mul_one], ?_⟩
  conv => rhs; rw [div_bit, ← h3]
  rw [Nat.add_mul, Nat.mul_assoc]
  omega
theorem divS_end {m n v r : Nat} (h : DivS m n 0 v r) : v = m / n ∧ r = m % n := by
  obtain ⟨h1, Q, h2, h3⟩ := h
  rw [Nat.pow_zero, Nat.div_one] at h3
  rw [Nat.pow_zero, Nat.one_mul] at h2
  subst h2
  rw [← h3, Nat.mul_comm, Nat.mul_add_div (by omega), Nat.div_eq_of_lt h1, Nat.mul_add_mod, Nat.mod_eq_of_lt h1]
  exact ⟨rfl, rfl⟩
theorem divS_start (m n K : Nat) (hm : m < 4294967296 ^ K) (hn : 0 < n) : DivS m n (32 * K) 0 0 :=
  ⟨hn, 0, by simp, by rw [← powB, Nat.div_eq_of_lt hm]; simp⟩
theorem valD_zeros (k : Nat) : valD (List.replicate k 0) = 0 := by
  induction k with
  | zero => rfl
  | succ k ih => rw [List.replicate_succ, valD, ih]

/-- a bit of the quotient is laid -/
theorem bit_put {xs : List Nat} (hok : okD xs) {m n i r q s : Nat} (h : DivS m n (i + 1) (valD xs) r) (hq : q = i / 32) (hs : s = i % 32) (hql : q < xs.length) :
    ∃ x, xs[q] = x ∧ x < 4294967296 ∧ x ||| 2 ^ s = x + 2 ^ s ∧ 2 ^ s < 4294967296 ∧ x + 2 ^ s < 4294967296 ∧ valD (xs.set q (x + 2 ^ s)) = valD xs + 2 ^ i := by
  have hs32 : s < 32 := by omega
  have hxd := digit_val hok q hql
  have hxl := hok xs[q] (List.getElem_mem _)
  have hset := fun y => valD_set xs q hql y
  have hlow : 2 ^ (s + 1) ∣ xs[q] := by
    obtain ⟨Q, hQ1, _⟩ := h.ex
    rw [hxd, hq, hs]
    exact digit_low hQ1
  clear hxd
  generalize xs[q] = x at *
  refine ⟨x, rfl, hxl, or_bit hlow, ?_, ?_, ?_⟩
  · rw [← p32']; exact Nat.pow_lt_pow_right (by decide) hs32
  · obtain ⟨c, hc⟩ := hlow
    have e2 : (4294967296 : Nat) = 2 ^ (s + 1) * 2 ^ (31 - s) := by rw [← Nat.pow_add, show s + 1 + (31 - s) = 32 by omega, p32']
    have hc2 : c < 2 ^ (31 - s) := by
      rw [hc, e2] at hxl
      exact Nat.lt_of_mul_lt_mul_left hxl
    have h3 := Nat.mul_le_mul_left (2 ^ (s + 1)) (show c + 1 ≤ 2 ^ (31 - s) from hc2)
    rw [← e2, Nat.mul_add, ← hc, Nat.mul_one, Nat.pow_succ] at h3
    have hp : 0 < 2 ^ s := Nat.pow_pos (by decide)
    omega
  · have e : 4294967296 ^ q * 2 ^ s = 2 ^ i := by rw [powB, ← Nat.pow_add, hq, hs, Nat.div_add_mod]
    have h4 := hset (x + 2 ^ s)
    rw [Nat.mul_add, e] at h4
    omega
end Go.Proofs.YtajebceanonalaaGreatDoor
