/-
  The reference's size, Right, New: contracts.
-/
import Derived.Test.YtampdbkafkcfdaaGreatDoorNatT
import Derived.Test.YtampdbkafkcfdaaGreatDoorRatD
import Derived.Test.YtampdbkafkcfdaaGreatDoorBaseD
import Derived.Test.YtampdbkafkcfdaaGreatDoorBaseC
import Derived.Deep.RegionHeld3

namespace Go.Proofs.YtampdbkafkcfdaaGreatDoor
set_option linter.unusedVariables false
open Go.RowKit

/-- the greatest common divisor, or one that is too great by far -/
def ComOK (m n p : Nat) : Prop := p = Nat.gcd m n ∨ (0 < p ∧ Nat.gcd m n ∣ p ∧ p * 18446744073709551616 ≤ n)
structure ComS (m n i p q : Nat) : Prop where
  gcd : Nat.gcd p q = Nat.gcd m n
  size : 1 ≤ i → q < p ∧ p * 2 ^ ((i - 1) / 2) ≤ n ∧ q * 2 ^ (i / 2) ≤ n
  first : i = 0 → p = m ∧ q = n
theorem comS_step {m n i p q : Nat} (h : ComS m n i p q) (hq : 0 < q) : ComS m n (i + 1) q (p % q) := by
  have hlt := Nat.mod_lt p hq
  refine ⟨?_, fun _ => ⟨hlt, ?_, ?_⟩, fun h0 => by omega⟩
  · rw [← h.gcd, Nat.gcd_comm p q, Nat.gcd_rec q p, Nat.gcd_comm]
  · rw [Nat.add_sub_cancel]
    rcases Nat.eq_zero_or_pos i with h0 | h0
    · subst h0
      obtain ⟨rfl, rfl⟩ := h.first rfl
      simp
    · exact (h.size h0).2.2
  · rcases Nat.eq_zero_or_pos i with h0 | h0
    · subst h0
      obtain ⟨rfl, rfl⟩ := h.first rfl
      simp
      omega
    · obtain ⟨h1, h2, h3⟩ := h.size h0
      have e : (i + 1) / 2 = (i - 1) / 2 + 1 := by omega
      have h4 : p % q * 2 ≤ p := by
        have h5 := Nat.div_add_mod p q
        have h6 : 1 ≤ p / q := (Nat.le_div_iff_mul_le hq).2 (by omega)
        have h7 := Nat.mul_le_mul_left q h6
        omega
      rw [e, Nat.pow_succ, Nat.mul_comm (2 ^ _) 2, ← Nat.mul_assoc]
      exact Nat.le_trans (Nat.mul_le_mul_right _ h4) h2
theorem comS_end {m n i p : Nat} (h : ComS m n i p 0) : ComOK m n p := .inl (by rw [← h.gcd, Nat.gcd_zero_right])
theorem comS_early {m n i p q : Nat} (h : ComS m n i p q) (hq : 0 < q) (hi : 64 * ((digs p).length + (digs q).length) + 2 ≤ i) : ComOK m n p := by
  have hql : 1 ≤ (digs q).length := by
    rcases Nat.eq_zero_or_pos (digs q).length with h0 | h0
    · have := (digs_len q 0).1 (by omega); simp at this; omega
    · exact h0
  obtain ⟨h1, h2, h3⟩ := h.size (by omega)
  have hpl : 1 ≤ (digs p).length := by
    rcases Nat.eq_zero_or_pos (digs p).length with h0 | h0
    · have := (digs_len p 0).1 (by omega); simp at this; omega
    · exact h0
  refine .inr ⟨by omega, by rw [← h.gcd]; exact Nat.gcd_dvd_left p q, ?_⟩
  have h4 : (2 : Nat) ^ 64 ≤ 2 ^ ((i - 1) / 2) := Nat.pow_le_pow_right (by decide) (by omega)
  have e : (2 : Nat) ^ 64 = 18446744073709551616 := by decide +kernel
  rw [e] at h4
  exact Nat.le_trans (Nat.mul_le_mul_left p h4) h2

def ComAt (m n g : Nat) (w wr : World) (x y i : Value) : Prop := ∃ p q k : Nat, g = q ∧ NatV wr x p ∧ NatV wr y q ∧ i = .int .i64 (k : Nat) ∧ ComS m n k p q ∧ (digs p).length ≤ 100000 ∧ (digs q).length ≤ 100000 ∧ k ≤ 64 * 200000 + 2 ∧ Below w.heap.size w wr
def RetCom (w : World) (m n : Nat) (e : Ending) (w' : World) : Prop := ∃ v p, e = .returned v ∧ NatV w' v p ∧ ComOK m n p ∧ (digs p).length ≤ 100000 ∧ Below w.heap.size w w'

end Go.Proofs.YtampdbkafkcfdaaGreatDoor

namespace Go.Proofs.YtampdbkafkcfdaaGreatDoor
set_option linter.unusedVariables false
open Go.RowKit

/-- the reference's answer: a fraction and an error's number -/
def refV (r : Option (Int × Int)) : Value :=
  match r with
  | some (n, d) => .tuple #[.agg #[.int .i64 n, .int .i64 d], .int .i64 0]
  | none => .tuple #[.agg #[.int .i64 0, .int .i64 0], .int .i64 9]

theorem frac_zero (neg : Bool) (D : Nat) : frac neg 0 D = some (0, 1) := by
  unfold frac; rw [Nat.zero_div]; exact fitE_zero _ _
theorem lowest_val (neg : Bool) (N D p : Nat) (h : ComOK N D p) (hN : N ≠ 0) (hD : 0 < D) :
    frac neg N D = (if 9223372036854775807 < D / p ∨ 9223372036854775808 < N / p ∨ (N / p = 9223372036854775808 ∧ neg = false) then none else some (sgn neg (N / p), ((D / p : Nat) : Int))) ∧ 0 < p := by
  have hg : 0 < Nat.gcd N D := Nat.gcd_pos_of_pos_right N hD
  rcases h with rfl | ⟨hp, hdv, hle⟩
  · refine ⟨?_, hg⟩
    have h0 : N / Nat.gcd N D ≠ 0 := by
      have h1 := Nat.div_mul_cancel (Nat.gcd_dvd_left N D)
      intro h2
      rw [h2] at h1
      simp at h1
      omega
    unfold frac fitE
    rw [if_neg h0]
  · have h1 : 18446744073709551616 ≤ D / p := by rw [Nat.le_div_iff_mul_le hp, Nat.mul_comm]; exact hle
    have h2 : D / p ≤ D / Nat.gcd N D := Nat.div_le_div_left (Nat.le_of_dvd hp hdv) hg
    refine ⟨?_, hp⟩
    rw [if_pos (.inl (by omega))]
    have h0 : N / Nat.gcd N D ≠ 0 := by
      have h1 := Nat.div_mul_cancel (Nat.gcd_dvd_left N D)
      intro h2
      rw [h2] at h1
      simp at h1
      omega
    unfold frac fitE
    rw [if_neg h0, if_pos (.inl (by omega))]
theorem neg_back (k : Nat) (h : k ≤ 9223372036854775808) : wrap64 (-(wrap64 (k : Int))) = -(k : Int) := by
  unfold wrap64; omega

end Go.Proofs.YtampdbkafkcfdaaGreatDoor

namespace Go.Proofs.YtampdbkafkcfdaaGreatDoor
set_option linter.unusedVariables false
open Go.RowKit

theorem digs64 {n : Nat} (h : n < 18446744073709551616) : (digs n).length ≤ 2 := (digs_len n 2).2 (by simpa using h)
theorem com64 {m n p : Nat} (h : ComOK m n p) (hn : n < 18446744073709551616) : p = Nat.gcd m n := by
  rcases h with h | ⟨h1, _, h2⟩
  · exact h
  · omega

end Go.Proofs.YtampdbkafkcfdaaGreatDoor
