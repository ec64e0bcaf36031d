/-
  Numbers that a text says: digits, powers of ten, fractions. (No program here.)
-/
import Derived.Test.YtmifjfohanegiaaGreatDoorDecM
import Derived.Test.YtmifjfohanegiaaGreatDoorRatM
namespace Go.Proofs.YtmifjfohanegiaaGreatDoor
set_option linter.unusedVariables false

def isDg (c : UInt8) : Bool := 48 ≤ c.toNat && c.toNat ≤ 57
def valS (n : Nat) (l : List UInt8) : Nat := l.foldl (fun n c => 10 * n + (c.toNat - 48)) n
def valL (l : List UInt8) : Nat := valS 0 l
def digL (l : List UInt8) : Prop := ∀ c ∈ l, isDg c = true
theorem isDg_iff (c : UInt8) : isDg c = true ↔ 48 ≤ c.toNat ∧ c.toNat ≤ 57 := by unfold isDg; simp
theorem valS_eq (n : Nat) (l : List UInt8) : valS n l = n * 10 ^ l.length + valL l := by
  induction l generalizing n with
  | nil => simp [valS, valL]
  | cons c l ih =>
    have e1 : valS n (c :: l) = valS (10 * n + (c.toNat - 48)) l := rfl
    have e2 : valL (c :: l) = valS (10 * 0 + (c.toNat - 48)) l := rfl
    rw [e1, e2, ih, ih (10 * 0 + _), List.length_cons, Nat.pow_succ, Nat.add_mul, Nat.add_mul, Nat.mul_comm 10 n, Nat.mul_assoc n 10, Nat.mul_comm 10 (10 ^ l.length)]
    omega
theorem valL_app (a b : List UInt8) : valL (a ++ b) = valL a * 10 ^ b.length + valL b := by
  have : valL (a ++ b) = valS (valL a) b := by unfold valL valS; rw [List.foldl_append]
  rw [this, valS_eq]
theorem valL_snoc (a : List UInt8) (c : UInt8) : valL (a ++ [c]) = 10 * valL a + (c.toNat - 48) := by
  rw [valL_app]; simp [valL, valS]; omega
theorem valL_cons (c : UInt8) (l : List UInt8) : valL (c :: l) = (c.toNat - 48) * 10 ^ l.length + valL l := by
  have := valL_app [c] l
  simpa [valL, valS] using this
theorem valL_lt {l : List UInt8} (h : digL l) : valL l < 10 ^ l.length := by
  induction l with
  | nil => simp [valL, valS]
  | cons c l ih =>
    have h1 := (isDg_iff c).1 (h c (by simp))
    have h2 := ih (fun x hx => h x (by simp [hx]))
    rw [valL_cons, List.length_cons, Nat.pow_succ]
    have h3 : (c.toNat - 48) * 10 ^ l.length ≤ 9 * 10 ^ l.length := Nat.mul_le_mul_right _ (by omega)
    omega
theorem dgt_toNat {m : Nat} (h : m < 10) : (dgt m).toNat = 48 + m := by
  unfold dgt
  rw [Nat.mod_eq_of_lt h]
  simp
  omega
theorem dgt_isDg (m : Nat) : isDg (dgt m) = true := by
  rw [isDg_iff]
  unfold dgt
  have := Nat.mod_lt m (show 0 < 10 by decide)
  simp
  omega
theorem dgt_back {c : UInt8} (h : isDg c = true) : dgt (c.toNat - 48) = c := by
  have h1 := (isDg_iff c).1 h
  unfold dgt
  rw [Nat.mod_eq_of_lt (by omega), show 48 + (c.toNat - 48) = c.toNat by omega]
  simp
theorem valL_pad (k u : Nat) (h : u < 10 ^ k) : valL (padD k u) = u := by
  induction k generalizing u with
  | zero => simp [padD, valL, valS] at *; omega
  | succ k ih =>
    have h1 : u / 10 < 10 ^ k := by rw [Nat.pow_succ] at h; exact Nat.div_lt_of_lt_mul (by rw [Nat.mul_comm]; exact h)
    rw [padD_snoc, valL_snoc, ih _ h1]
    have h2 : (dgt u).toNat = 48 + u % 10 := by
      have e : dgt u = dgt (u % 10) := by unfold dgt; rw [Nat.mod_mod]
      rw [e, dgt_toNat (Nat.mod_lt _ (by decide))]
    rw [h2]
    omega
theorem digL_pad (k u : Nat) : digL (padD k u) := by
  induction k generalizing u with
  | zero => intro c hc; cases hc
  | succ k ih =>
    rw [padD_snoc]
    intro c hc
    rcases List.mem_append.1 hc with h | h
    · exact ih _ c h
    · rw [List.mem_singleton.1 h]; exact dgt_isDg _
theorem pad_valL {l : List UInt8} (h : digL l) : padD l.length (valL l) = l := by
  induction l with
  | nil => rfl
  | cons c l ih =>
    have hl : digL l := fun x hx => h x (by simp [hx])
    have h1 := h c (by simp)
    have h2 := valL_lt hl
    have hq : ((c.toNat - 48) * 10 ^ l.length + valL l) / 10 ^ l.length = c.toNat - 48 := by
      rw [Nat.mul_comm, Nat.mul_add_div (Nat.pow_pos (by decide)), Nat.div_eq_of_lt h2, Nat.add_zero]
    rw [List.length_cons, padD, valL_cons, padD_mod, hq, dgt_back h1, ih hl]
/-- digits without a nought ahead are the number's own -/
theorem dec_canon {c : UInt8} {l : List UInt8} (h : digL (c :: l)) (hc : c ≠ 48) : Lib.decDigits (valL (c :: l)) = c :: l ∧ 10 ^ l.length ≤ valL (c :: l) := by
  have h1 := (isDg_iff c).1 (h c (by simp))
  have h2 : 49 ≤ c.toNat := by
    rcases Nat.lt_or_ge c.toNat 49 with h3 | h3
    · exfalso; apply hc
      have : c.toNat = 48 := by omega
      have e : c = UInt8.ofNat c.toNat := by simp
      rw [e, this]; rfl
    · exact h3
  have hlo : 10 ^ l.length ≤ valL (c :: l) := by
    rw [valL_cons]
    have : 1 * 10 ^ l.length ≤ (c.toNat - 48) * 10 ^ l.length := Nat.mul_le_mul_right _ (by omega)
    omega
  refine ⟨?_, hlo⟩
  have hlt := valL_lt h
  rw [List.length_cons] at hlt
  rw [dec_pad l.length _ hlt (.inr hlo)]
  exact pad_valL h
theorem dec_digL (u : Nat) : digL (Lib.decDigits u) := by
  obtain ⟨k, h1, _⟩ := dec_len u
  rw [h1]; exact digL_pad _ _
theorem dec_valL (u : Nat) : valL (Lib.decDigits u) = u := by
  obtain ⟨k, h1, h2, _⟩ := dec_len u
  rw [h1]; exact valL_pad _ _ h2
theorem dec_head {u : Nat} (h : 0 < u) : ∃ c l, Lib.decDigits u = c :: l ∧ c ≠ 48 := by
  obtain ⟨k, h1, h2, h3⟩ := dec_len u
  refine ⟨_, _, h1, ?_⟩
  intro h4
  have h5 : u / 10 ^ k % 10 = 0 := by
    have h6 := congrArg UInt8.toNat h4
    have h7 := dgt_toNat (Nat.mod_lt (u / 10 ^ k) (show 0 < 10 by decide))
    have e : dgt (u / 10 ^ k) = dgt (u / 10 ^ k % 10) := by unfold dgt; rw [Nat.mod_mod]
    rw [e, h7] at h6
    have h48 : UInt8.toNat 48 = 48 := rfl
    rw [h48] at h6
    omega
  have h8 : u / 10 ^ k < 10 := by rw [Nat.div_lt_iff_lt_mul (Nat.pow_pos (by decide)), Nat.mul_comm, ← Nat.pow_succ]; exact h2
  have h9 : u / 10 ^ k = 0 := by generalize u / 10 ^ k = x at *; omega
  rcases h3 with rfl | h3
  · simp at h9; omega
  · have := Nat.div_pos h3 (Nat.pow_pos (by decide)); omega
/-- noughts ahead taken away -/
theorem drop_pad (k u : Nat) (hu : 0 < u) (h : u < 10 ^ k) : (padD k u).dropWhile (fun c => c == 48) = Lib.decDigits u := by
  obtain ⟨j, h1, h2, h3⟩ := dec_len u
  have hjk : j + 1 ≤ k := by
    rcases h3 with rfl | h3
    · rcases Nat.eq_zero_or_pos k with h0 | h0
      · subst h0; simp at h; omega
      · omega
    · have := (Nat.pow_lt_pow_iff_right (by decide : 1 < 10)).1 (Nat.lt_of_le_of_lt h3 h); omega
  obtain ⟨m, rfl⟩ : ∃ m, k = m + (j + 1) := ⟨k - (j + 1), by omega⟩
  rw [pad_front (j + 1) m u h2, ← h1]
  obtain ⟨c, l, hc, hn⟩ := dec_head hu
  rw [hc]
  induction m with
  | zero => rw [List.replicate_zero, List.nil_append, List.dropWhile_cons, if_neg (by simpa using hn)]
  | succ m ih =>
    rw [List.replicate_succ, List.cons_append, List.dropWhile_cons, if_pos (by simp)]
    exact ih (by rw [Nat.pow_add]; exact Nat.lt_of_lt_of_le h2 (Nat.le_mul_of_pos_left _ (Nat.pow_pos (by decide)))) (by omega)
theorem val_drop (l : List UInt8) : valL (l.dropWhile (fun c => c == 48)) = valL l := by
  induction l with
  | nil => rfl
  | cons c l ih =>
    rw [List.dropWhile_cons]
    split
    · rename_i h
      have : c = 48 := by simpa using h
      subst this
      rw [ih, valL_cons]; simp
    · rfl

/-! ### fractions -/
def parseF (neg : Bool) (n : Nat) (e : Int) : Option (Int × Int) := frac neg (n * 10 ^ e.toNat) (10 ^ (-e).toNat)
theorem p10 (k : Nat) : 0 < 10 ^ k := Nat.pow_pos (by decide)
theorem parseF_shift (neg : Bool) (v z : Nat) (e : Int) : parseF neg (v * 10 ^ z) e = parseF neg v (e + z) := by
  unfold parseF
  refine frac_congr _ _ _ _ _ _ (p10 _) (p10 _) ?_
  rw [sgn_mul, sgn_mul, sgn_mul]
  simp only [Int.natCast_pow]
  have key : ∀ a b c d : Nat, a + b = c + d → (10 : Int) ^ a * 10 ^ b = 10 ^ c * 10 ^ d := fun a b c d h => by rw [← Int.pow_add, ← Int.pow_add, h]
  have h := key (z + e.toNat) (-(e + z)).toNat (e + z).toNat (-e).toNat (by omega)
  rw [Int.pow_add] at h
  simp only [Int.mul_assoc] at h ⊢
  congr 1
theorem frac_none {neg : Bool} {N D : Nat} (hN : N ≠ 0) (h : 9223372036854775807 < D / Nat.gcd N D ∨ 9223372036854775808 < N / Nat.gcd N D) : frac neg N D = none := by
  have h0 : N / Nat.gcd N D ≠ 0 := by
    have h1 := Nat.div_mul_cancel (Nat.gcd_dvd_left N D)
    intro h2
    rw [h2] at h1
    simp at h1
    omega
  unfold frac fitE
  rw [if_neg h0, if_pos (by rcases h with h | h <;> simp [h])]
theorem frac_one (neg : Bool) (N : Nat) : frac neg N 1 = fitE neg N 1 := by unfold frac; simp
theorem frac_over_num {neg : Bool} {N : Nat} (h : 9223372036854775808 < N) : frac neg N 1 = none := frac_none (by omega) (.inr (by simpa using h))
/-- a number that ten doesn't divide, over a great power of ten -/
theorem frac_over_den {neg : Bool} {v b : Nat} (hv : v % 10 ≠ 0) (hb : 63 ≤ b) : frac neg v (10 ^ b) = none := by
  have hv0 : v ≠ 0 := by intro h; subst h; simp at hv
  refine frac_none hv0 (.inl ?_)
  have hg : 0 < Nat.gcd v (10 ^ b) := Nat.gcd_pos_of_pos_right _ (p10 b)
  have e10 : (10 : Nat) ^ b = 2 ^ b * 5 ^ b := by rw [← Nat.mul_pow]
  have key : ∀ p q : Nat, 10 ^ b = p ^ b * q ^ b → 1 < p → Nat.Coprime p v → p ^ b ≤ 10 ^ b / Nat.gcd v (10 ^ b) := by
    intro p q e hp hc
    rw [Nat.le_div_iff_mul_le hg]
    have h1 : Nat.gcd v (10 ^ b) ∣ q ^ b := by
      have h2 : Nat.gcd v (10 ^ b) ∣ p ^ b * q ^ b := by rw [← e]; exact Nat.gcd_dvd_right _ _
      refine Nat.Coprime.dvd_of_dvd_mul_left ?_ h2
      have h3 : Nat.Coprime (p ^ b) v := Nat.Coprime.pow_left b hc
      exact (Nat.Coprime.coprime_dvd_right (Nat.gcd_dvd_left v (10 ^ b)) h3).symm
    have h4 : 0 < q ^ b := by
      rcases Nat.eq_zero_or_pos (q ^ b) with h0 | h0
      · rw [h0, Nat.mul_zero] at e; have := p10 b; omega
      · exact h0
    have h5 := Nat.mul_le_mul_left (p ^ b) (Nat.le_of_dvd h4 h1)
    rw [← e] at h5
    exact h5
  have hbig : ∀ p : Nat, 2 ≤ p → 9223372036854775807 < p ^ b := fun p hp => Nat.lt_of_lt_of_le (by decide : 9223372036854775807 < 2 ^ 63) (Nat.le_trans (Nat.pow_le_pow_right (by decide) hb) (Nat.pow_le_pow_left hp b))
  by_cases h2 : v % 2 = 0
  · have h5 : v % 5 ≠ 0 := by omega
    refine Nat.lt_of_lt_of_le (hbig 5 (by decide)) (key 5 2 (by rw [e10, Nat.mul_comm]) (by decide) ?_)
    have h6 : v % 5 = 1 ∨ v % 5 = 2 ∨ v % 5 = 3 ∨ v % 5 = 4 := by omega
    unfold Nat.Coprime
    rw [Nat.gcd_rec]
    rcases h6 with h | h | h | h <;> rw [h] <;> rfl
  · refine Nat.lt_of_lt_of_le (hbig 2 (by decide)) (key 2 5 e10 (by decide) ?_)
    have h6 : v % 2 = 1 := by omega
    unfold Nat.Coprime
    rw [Nat.gcd_rec, h6]
    rfl
theorem frac_step {neg : Bool} {v D : Nat} {x y : Int} (hD : 0 < D) (h : frac neg v D = some (x, y)) : fracI (x * 1) (y.natAbs * 10) = frac neg v (D * 10) := by
  obtain ⟨⟨h1, h2, h3, h4, h5⟩, h6⟩ := (frac_iff neg v D hD x y).1 h
  unfold fracI
  refine frac_congr _ _ _ _ _ _ (by omega) (by omega) ?_
  have e1 : sgn (decide (x * 1 < 0)) (x * 1).natAbs = x := by
    rw [Int.mul_one]
    unfold sgn
    by_cases hx : x < 0
    · rw [decide_eq_true hx, if_pos rfl]; omega
    · rw [decide_eq_false hx, if_neg (by decide)]; omega
  have e2 : (y.natAbs : Int) = y := by omega
  rw [e1]
  simp only [Int.natCast_mul, e2]
  rw [← Int.mul_assoc, h6, Int.mul_assoc]
theorem frac_right {neg : Bool} {v D : Nat} {x y : Int} (hD : 0 < D) (h : frac neg v D = some (x, y)) : RightP x y := ((frac_iff neg v D hD x y).1 h).1
theorem frac_mono {neg : Bool} {v j : Nat} (hv : v ≠ 0) (hv2 : v ≤ 9223372036854775807) (h : frac neg v (10 ^ j) = none) : frac neg v (10 ^ (j + 1)) = none := by
  have hg : 0 < Nat.gcd v (10 ^ j) := Nat.gcd_pos_of_pos_right _ (p10 j)
  have hg2 : 0 < Nat.gcd v (10 ^ (j + 1)) := Nat.gcd_pos_of_pos_right _ (p10 (j + 1))
  have hle : v / Nat.gcd v (10 ^ j) ≤ v := Nat.div_le_self _ _
  have h0 : v / Nat.gcd v (10 ^ j) ≠ 0 := by
    have h1 := Nat.div_mul_cancel (Nat.gcd_dvd_left v (10 ^ j))
    intro h2
    rw [h2] at h1
    simp at h1
    omega
  have hden : 9223372036854775807 < 10 ^ j / Nat.gcd v (10 ^ j) := by
    unfold frac fitE at h
    rw [if_neg h0] at h
    split at h
    · rename_i h1
      rcases h1 with h1 | h1 | h1
      · exact h1
      · omega
      · omega
    · cases h
  refine frac_none hv (.inl (Nat.lt_of_lt_of_le hden ?_))
  have hdv : Nat.gcd v (10 ^ (j + 1)) ≤ 10 * Nat.gcd v (10 ^ j) := by
    rw [← Nat.gcd_mul_left, Nat.pow_succ, Nat.mul_comm (10 ^ j) 10]
    refine Nat.le_of_dvd (Nat.gcd_pos_of_pos_right _ (Nat.mul_pos (by decide) (p10 j))) ?_
    exact Nat.dvd_gcd (Nat.dvd_trans (Nat.gcd_dvd_left _ _) (Nat.dvd_mul_left _ _)) (Nat.gcd_dvd_right _ _)
  rw [Nat.le_div_iff_mul_le hg2]
  have h1 := Nat.div_mul_le_self (10 ^ j) (Nat.gcd v (10 ^ j))
  refine Nat.le_trans (Nat.mul_le_mul_left _ hdv) ?_
  rw [Nat.pow_succ, Nat.mul_left_comm, Nat.mul_comm (10 ^ j) 10]
  exact Nat.mul_le_mul_left _ h1
theorem frac_mono_le {neg : Bool} {v j : Nat} (hv : v ≠ 0) (hv2 : v ≤ 9223372036854775807) (h : frac neg v (10 ^ j) = none) (b : Nat) (hb : j ≤ b) : frac neg v (10 ^ b) = none := by
  obtain ⟨k, rfl⟩ : ∃ k, b = j + k := ⟨b - j, by omega⟩
  induction k with
  | zero => exact h
  | succ k ih => exact frac_mono hv hv2 (ih (by omega))
theorem cop_end {V two five : Nat} (h2 : two = 0 ∨ V % 2 ≠ 0) (h5 : five = 0 ∨ V % 5 ≠ 0) : Nat.gcd V (2 ^ two * 5 ^ five) = 1 := by
  have c2 : Nat.Coprime V (2 ^ two) := by
    rcases h2 with rfl | h
    · simp
    · refine Nat.Coprime.pow_right _ ?_
      have h6 : V % 2 = 1 := by omega
      rw [Nat.coprime_comm]
      unfold Nat.Coprime
      rw [Nat.gcd_rec, h6]
      rfl
  have c5 : Nat.Coprime V (5 ^ five) := by
    rcases h5 with rfl | h
    · simp
    · refine Nat.Coprime.pow_right _ ?_
      have h6 : V % 5 = 1 ∨ V % 5 = 2 ∨ V % 5 = 3 ∨ V % 5 = 4 := by omega
      rw [Nat.coprime_comm]
      unfold Nat.Coprime
      rw [Nat.gcd_rec]
      rcases h6 with h | h | h | h <;> rw [h] <;> rfl
  exact Nat.Coprime.mul_right c2 c5
theorem frac_cop {neg : Bool} {V D : Nat} (h : Nat.gcd V D = 1) : frac neg V D = fitE neg V D := by unfold frac; rw [h, Nat.div_one, Nat.div_one]
theorem long_frac {neg : Bool} {v V two five back : Nat} (h : v * (2 ^ two * 5 ^ five) = V * 10 ^ back) : frac neg v (10 ^ back) = frac neg V (2 ^ two * 5 ^ five) := by
  have hp : 0 < 2 ^ two * 5 ^ five := Nat.mul_pos (Nat.pow_pos (by decide)) (Nat.pow_pos (by decide))
  refine frac_congr _ _ _ _ _ _ (p10 _) hp ?_
  rw [← sgn_mul, ← sgn_mul, h]
end Go.Proofs.YtmifjfohanegiaaGreatDoor
