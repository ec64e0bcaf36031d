/-
  Decimal digits, long division, fractions that end. (No program here.)
-/
import Derived.Lib.ItoaNum
namespace Go.Proofs.YtmifjfohanegiaaGreatDoor
set_option linter.unusedVariables false

def dgt (m : Nat) : UInt8 := UInt8.ofNat (48 + m % 10)
/-- so many digits, the highest first -/
def padD : Nat → Nat → List UInt8
  | 0, _ => []
  | k + 1, n => dgt (n / 10 ^ k) :: padD k n
theorem padD_len (k n : Nat) : (padD k n).length = k := by
  induction k with
  | zero => rfl
  | succ k ih => rw [padD, List.length_cons, ih]
theorem padD_snoc (k n : Nat) : padD (k + 1) n = padD k (n / 10) ++ [dgt n] := by
  induction k generalizing n with
  | zero => simp [padD]
  | succ k ih =>
    rw [padD, ih, padD, List.cons_append, Nat.pow_succ, Nat.mul_comm (10 ^ k) 10, ← Nat.div_div_eq_div_mul]
theorem padD_add (a b n : Nat) : padD (a + b) n = padD a (n / 10 ^ b) ++ padD b n := by
  induction b generalizing n with
  | zero => simp [padD]
  | succ b ih =>
    rw [← Nat.add_assoc, padD_snoc, ih, padD_snoc, Nat.div_div_eq_div_mul, Nat.pow_succ, Nat.mul_comm (10 ^ b) 10, List.append_assoc]
theorem padD_mod (k n m : Nat) : padD k (m * 10 ^ k + n) = padD k n := by
  induction k generalizing n m with
  | zero => rfl
  | succ k ih =>
    rw [padD, padD]
    have e : m * 10 ^ (k + 1) + n = m * 10 * 10 ^ k + n := by rw [Nat.pow_succ, Nat.mul_comm (10 ^ k) 10, Nat.mul_assoc]
    rw [e, ih]
    congr 1
    unfold dgt
    rw [Nat.mul_comm (m * 10) (10 ^ k), Nat.mul_add_div (Nat.pow_pos (by decide)), Nat.mul_comm m 10, Nat.mul_add_mod]
theorem dec_step (u : Nat) (h : 10 ≤ u) : Lib.decDigits u = Lib.decDigits (u / 10) ++ [dgt u] := by
  rw [Lib.decDigits, dif_neg (by omega)]; rfl
theorem dec_small (u : Nat) (h : u < 10) : Lib.decDigits u = [dgt u] := by
  rw [Lib.decDigits, dif_pos h]; unfold dgt; rw [Nat.mod_eq_of_lt h]
/-- a number's digits: as many as it has -/
theorem dec_pad (k u : Nat) (h1 : u < 10 ^ (k + 1)) (h2 : k = 0 ∨ 10 ^ k ≤ u) : Lib.decDigits u = padD (k + 1) u := by
  induction k generalizing u with
  | zero => rw [dec_small u (by simpa using h1), padD_snoc]; rfl
  | succ k ih =>
    have h3 : 10 ^ (k + 1) ≤ u := by rcases h2 with h | h; · omega
                                     · exact h
    have h10 : 10 ≤ u := Nat.le_trans (by rw [Nat.pow_succ]; exact Nat.le_mul_of_pos_left _ (Nat.pow_pos (by decide))) h3
    rw [dec_step u h10, padD_snoc, ih (u / 10) ?_ ?_]
    · rw [Nat.pow_succ] at h1; exact Nat.div_lt_of_lt_mul (by rw [Nat.mul_comm]; exact h1)
    · right; rw [Nat.le_div_iff_mul_le (by decide), ← Nat.pow_succ]; exact h3
theorem dec_len (u : Nat) : ∃ k, Lib.decDigits u = padD (k + 1) u ∧ u < 10 ^ (k + 1) ∧ (k = 0 ∨ 10 ^ k ≤ u) := by
  induction u using Nat.strongRecOn with
  | _ u ih =>
    by_cases h : u < 10
    · exact ⟨0, dec_pad 0 u (by simpa using h) (.inl rfl), by simpa using h, .inl rfl⟩
    · obtain ⟨k, h1, h2, h3⟩ := ih (u / 10) (by omega)
      have h4 : u < 10 ^ (k + 1 + 1) := by rw [Nat.pow_succ]; exact (Nat.div_lt_iff_lt_mul (by decide)).1 h2
      have h5 : 10 ^ (k + 1) ≤ u := by
        rcases h3 with rfl | h3
        · omega
        · rw [Nat.pow_succ]; exact (Nat.le_div_iff_mul_le (by decide)).1 h3
      exact ⟨k + 1, dec_pad _ u h4 (.inr h5), h4, .inr h5⟩
theorem dec_len_le (u k : Nat) (h : u < 10 ^ k) (hk : 0 < k) : (Lib.decDigits u).length ≤ k := by
  obtain ⟨j, h1, h2, h3⟩ := dec_len u
  rw [h1, padD_len]
  rcases h3 with rfl | h3
  · omega
  · have := Nat.lt_of_le_of_lt h3 h
    have := (Nat.pow_lt_pow_iff_right (by decide : 1 < 10)).1 this
    omega
theorem dec_pos (u : Nat) : 0 < (Lib.decDigits u).length := by
  obtain ⟨j, h1, _⟩ := dec_len u
  rw [h1, padD_len]; omega
/-- noughts ahead -/
theorem pad_front (j k u : Nat) (h : u < 10 ^ j) : padD (k + j) u = List.replicate k 48 ++ padD j u := by
  rw [padD_add, Nat.div_eq_of_lt h]
  congr 1
  induction k with
  | zero => rfl
  | succ k ih => rw [padD, Nat.zero_div, ih, List.replicate_succ]; rfl

/-- the digits behind the point -/
def longD : Nat → Nat → Nat → List UInt8
  | 0, _, _ => []
  | k + 1, r, d => dgt (10 * r / d) :: longD k (10 * r % d) d
theorem longD_len (k r d : Nat) : (longD k r d).length = k := by
  induction k generalizing r with
  | zero => rfl
  | succ k ih => rw [longD, List.length_cons, ih]
theorem longD_snoc (k r d : Nat) (hd : 0 < d) : longD (k + 1) r d = longD k r d ++ [dgt (10 * (r * 10 ^ k % d) / d)] := by
  induction k generalizing r with
  | zero => 
    simp only [longD, List.nil_append, Nat.pow_zero, Nat.mul_one, List.cons.injEq, and_true]
    unfold dgt
    congr 2
    have h := Nat.div_add_mod r d
    have e : 10 * r / d = 10 * (r / d) + 10 * (r % d) / d := by
      conv => lhs; rw [← h]
      rw [Nat.mul_add, Nat.mul_left_comm, Nat.mul_add_div hd]
    rw [e, Nat.add_comm, Nat.add_mul_mod_self_left]
  | succ k ih =>
    rw [longD, ih, longD, List.cons_append]
    congr 3
    have : 10 * r % d * 10 ^ k % d = r * 10 ^ (k + 1) % d := by
      rw [Nat.mod_mul_mod, Nat.pow_succ, Nat.mul_comm (10 ^ k) 10, ← Nat.mul_assoc, Nat.mul_comm 10 r]
    rw [this]
theorem longD_pad (k r d : Nat) (hr : r < d) : longD k r d = padD k (r * 10 ^ k / d) := by
  have hd : 0 < d := by omega
  induction k generalizing r with
  | zero => rfl
  | succ k ih =>
    have hq : 10 * r / d < 10 := by rw [Nat.div_lt_iff_lt_mul hd]; omega
    have hm : 10 * r % d < d := Nat.mod_lt _ hd
    have e : r * 10 ^ (k + 1) / d = 10 * r / d * 10 ^ k + 10 * r % d * 10 ^ k / d := by
      have h := Nat.div_add_mod (10 * r) d
      have e2 : r * 10 ^ (k + 1) = d * (10 * r / d * 10 ^ k) + 10 * r % d * 10 ^ k := by
        rw [Nat.pow_succ, Nat.mul_comm (10 ^ k) 10, ← Nat.mul_assoc, Nat.mul_comm r 10]
        conv => lhs; rw [← h]
        rw [Nat.add_mul, Nat.mul_assoc]
      rw [e2, Nat.mul_add_div hd]
    have hF : 10 * r % d * 10 ^ k / d < 10 ^ k := by
      rw [Nat.div_lt_iff_lt_mul hd, Nat.mul_comm (10 ^ k)]
      exact Nat.mul_lt_mul_of_pos_right hm (Nat.pow_pos (by decide))
    rw [longD, ih _ hm, e, padD, padD_mod]
    congr 1
    unfold dgt
    rw [Nat.mul_comm _ (10 ^ k), Nat.mul_add_div (Nat.pow_pos (by decide)), Nat.div_eq_of_lt hF]
    simp

/-! ### a denominator without twos and fives -/
def stripN (p d : Nat) : Nat := if h : 1 < p ∧ 0 < d ∧ d % p = 0 then stripN p (d / p) else d
termination_by d
decreasing_by exact Nat.div_lt_self h.2.1 h.1
def cntN (p d : Nat) : Nat := if h : 1 < p ∧ 0 < d ∧ d % p = 0 then cntN p (d / p) + 1 else 0
termination_by d
decreasing_by exact Nat.div_lt_self h.2.1 h.1
theorem strip_yes {p d : Nat} (hp : 1 < p) (hd : 0 < d) (h : d % p = 0) : stripN p d = stripN p (d / p) ∧ cntN p d = cntN p (d / p) + 1 := by
  constructor
  · conv => lhs; rw [stripN, dif_pos ⟨hp, hd, h⟩]
  · conv => lhs; rw [cntN, dif_pos ⟨hp, hd, h⟩]
theorem strip_no {p d : Nat} (h : d % p ≠ 0) : stripN p d = d ∧ cntN p d = 0 := by
  constructor
  · rw [stripN, dif_neg (fun h2 => h h2.2.2)]
  · rw [cntN, dif_neg (fun h2 => h h2.2.2)]
theorem strip_spec (p d : Nat) (hp : 1 < p) (hd : 0 < d) : d = p ^ cntN p d * stripN p d ∧ stripN p d % p ≠ 0 ∧ 0 < stripN p d := by
  induction d using Nat.strongRecOn with
  | _ d ih =>
    by_cases h : d % p = 0
    · obtain ⟨e1, e2⟩ := strip_yes hp hd h
      have hdv : d / p * p = d := Nat.div_mul_cancel (Nat.dvd_of_mod_eq_zero h)
      have hq : 0 < d / p := by
        rcases Nat.eq_zero_or_pos (d / p) with h0 | h0
        · rw [h0] at hdv; omega
        · exact h0
      obtain ⟨h1, h2, h3⟩ := ih (d / p) (Nat.div_lt_self hd hp) hq
      rw [e1, e2]
      refine ⟨?_, h2, h3⟩
      rw [Nat.pow_succ, Nat.mul_right_comm, ← h1, hdv]
    · obtain ⟨e1, e2⟩ := strip_no (d := d) h
      rw [e1, e2]
      exact ⟨by simp, h, hd⟩
theorem cnt_lt (p d B : Nat) (hp : 1 < p) (hd : 0 < d) (h : d < p ^ B) : cntN p d < B := by
  obtain ⟨h1, _, h3⟩ := strip_spec p d hp hd
  have h4 : p ^ cntN p d ≤ d := by
    conv => rhs; rw [h1]
    exact Nat.le_mul_of_pos_right _ h3
  exact (Nat.pow_lt_pow_iff_right hp).1 (Nat.lt_of_le_of_lt h4 h)
def restN (d : Nat) : Nat := stripN 5 (stripN 2 d)
def placesN (d : Nat) : Nat := max (cntN 2 d) (cntN 5 (stripN 2 d))
/-- a fraction ends just behind so many places -/
theorem ends_iff (d : Nat) (hd : 0 < d) (h1 : restN d = 1) (j : Nat) : d ∣ 10 ^ j ↔ placesN d ≤ j := by
  obtain ⟨a1, a2, a3⟩ := strip_spec 2 d (by decide) hd
  obtain ⟨b1, b2, b3⟩ := strip_spec 5 (stripN 2 d) (by decide) a3
  unfold restN at h1
  rw [h1, Nat.mul_one] at b1
  unfold placesN
  generalize cntN 5 (stripN 2 d) = b at *
  generalize cntN 2 d = a at *
  rw [b1] at a1
  have e10 : (10 : Nat) ^ j = 2 ^ j * 5 ^ j := by rw [← Nat.mul_pow]
  constructor
  · intro h
    rw [e10] at h
    have ha : a ≤ j := by
      have h2 : 2 ^ a ∣ 2 ^ j * 5 ^ j := Nat.dvd_trans ⟨5 ^ b, a1⟩ h
      have h3 : Nat.Coprime (2 ^ a) (5 ^ j) := Nat.Coprime.pow _ _ (by decide)
      have h4 := Nat.Coprime.dvd_of_dvd_mul_right h3 h2
      exact (Nat.pow_dvd_pow_iff_le_right (by decide)).1 h4
    have hb : b ≤ j := by
      have h2 : 5 ^ b ∣ 2 ^ j * 5 ^ j := Nat.dvd_trans ⟨2 ^ a, by rw [a1, Nat.mul_comm]⟩ h
      have h3 : Nat.Coprime (5 ^ b) (2 ^ j) := Nat.Coprime.pow _ _ (by decide)
      have h4 := Nat.Coprime.dvd_of_dvd_mul_left h3 h2
      exact (Nat.pow_dvd_pow_iff_le_right (by decide)).1 h4
    exact Nat.max_le.2 ⟨ha, hb⟩
  · intro h
    rw [a1, e10]
    exact Nat.mul_dvd_mul (Nat.pow_dvd_pow 2 (by omega)) (Nat.pow_dvd_pow 5 (by omega))
theorem rest_zero_iff (n d : Nat) (hd : 0 < d) (h1 : restN d = 1) (hc : Nat.gcd n d = 1) (j : Nat) : n % d * 10 ^ j % d = 0 ↔ placesN d ≤ j := by
  rw [← ends_iff d hd h1, Nat.mod_mul_mod]
  have hcop : Nat.Coprime d n := by rw [Nat.coprime_comm]; exact hc
  constructor
  · intro h
    exact Nat.Coprime.dvd_of_dvd_mul_left hcop (Nat.dvd_of_mod_eq_zero h)
  · intro h
    exact Nat.mod_eq_zero_of_dvd (Nat.dvd_trans h ⟨n, Nat.mul_comm _ _⟩)
/-- the whole and the digits behind the point, out of the one number -/
theorem point_split (n d k len : Nat) (hd : 0 < d) (hlen : len = max (Lib.decDigits (n * 10 ^ k / d)).length (k + 1)) :
    padD len (n * 10 ^ k / d) = Lib.decDigits (n / d) ++ longD k (n % d) d := by
  have hm : n % d < d := Nat.mod_lt _ hd
  have e : n * 10 ^ k / d = n / d * 10 ^ k + n % d * 10 ^ k / d := by
    have h := Nat.div_add_mod n d
    conv => lhs; rw [← h]
    rw [Nat.add_mul, Nat.mul_assoc, Nat.mul_add_div hd]
  have hF : n % d * 10 ^ k / d < 10 ^ k := by
    rw [Nat.div_lt_iff_lt_mul hd, Nat.mul_comm (10 ^ k)]
    exact Nat.mul_lt_mul_of_pos_right hm (Nat.pow_pos (by decide))
  have hA : n * 10 ^ k / d / 10 ^ k = n / d := by
    rw [e, Nat.mul_comm _ (10 ^ k), Nat.mul_add_div (Nat.pow_pos (by decide)), Nat.div_eq_of_lt hF, Nat.add_zero]
  obtain ⟨m, rfl⟩ : ∃ m, len = m + k := ⟨len - k, by omega⟩
  rw [padD_add, hA, longD_pad k _ d hm]
  congr 1
  · obtain ⟨j, h1, h2, h3⟩ := dec_len (n / d)
    obtain ⟨i, g1, g2, g3⟩ := dec_len (n * 10 ^ k / d)
    rw [g1, padD_len] at hlen
    have hmj : m = j + 1 := by
      generalize n * 10 ^ k / d = q at *
      generalize n / d = A at *
      have hq1 : q < 10 ^ (j + 1 + k) := by
        rw [Nat.pow_add]
        exact (Nat.div_lt_iff_lt_mul (Nat.pow_pos (by decide))).1 (by rw [hA]; exact h2)
      rcases h3 with rfl | h3
      · rcases g3 with rfl | g3
        · omega
        · have := (Nat.pow_lt_pow_iff_right (by decide : 1 < 10)).1 (Nat.lt_of_le_of_lt g3 hq1)
          omega
      · have hq2 : 10 ^ (j + k) ≤ q := by
          rw [Nat.pow_add]
          exact (Nat.le_div_iff_mul_le (Nat.pow_pos (by decide))).1 (by rw [hA]; exact h3)
        have h5 := (Nat.pow_lt_pow_iff_right (by decide : 1 < 10)).1 (Nat.lt_of_le_of_lt hq2 g2)
        rcases g3 with rfl | g3
        · omega
        · have := (Nat.pow_lt_pow_iff_right (by decide : 1 < 10)).1 (Nat.lt_of_le_of_lt g3 hq1)
          omega
    rw [h1, hmj]
  · rw [e, padD_mod]
end Go.Proofs.YtmifjfohanegiaaGreatDoor
