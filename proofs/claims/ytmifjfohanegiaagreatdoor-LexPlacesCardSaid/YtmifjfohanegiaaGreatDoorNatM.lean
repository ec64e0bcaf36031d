/-
  Natural numbers as rows of digits to the base 2^32. (No program here.)
-/
namespace Go.Proofs.YtmifjfohanegiaaGreatDoor
set_option linter.unusedVariables false

/-- the digits, the lowest first, none highest that is 0 -/
def digs (n : Nat) : List Nat := if h : n = 0 then [] else n % 4294967296 :: digs (n / 4294967296)
termination_by n
decreasing_by exact Nat.div_lt_self (Nat.pos_of_ne_zero h) (by decide)
def valD : List Nat → Nat
  | [] => 0
  | d :: l => d + 4294967296 * valD l
def okD (l : List Nat) : Prop := ∀ d ∈ l, d < 4294967296

theorem digs_zero : digs 0 = [] := by unfold digs; rfl
theorem digs_pos {n : Nat} (h : n ≠ 0) : digs n = n % 4294967296 :: digs (n / 4294967296) := by
  conv => lhs; unfold digs
  rw [dif_neg h]
theorem digs_nil {n : Nat} : digs n = [] ↔ n = 0 := by
  by_cases h : n = 0
  · subst h; simp [digs_zero]
  · rw [digs_pos h]; simp [h]

theorem digs_ok (n : Nat) : okD (digs n) := by
  induction n using Nat.strongRecOn with
  | _ n ih =>
    by_cases h : n = 0
    · subst h; rw [digs_zero]; intro d hd; cases hd
    · rw [digs_pos h]
      intro d hd
      rcases List.mem_cons.1 hd with rfl | hd
      · exact Nat.mod_lt _ (by decide)
      · exact ih (n / 4294967296) (Nat.div_lt_self (Nat.pos_of_ne_zero h) (by decide)) d hd

theorem val_digs (n : Nat) : valD (digs n) = n := by
  induction n using Nat.strongRecOn with
  | _ n ih =>
    by_cases h : n = 0
    · subst h; rw [digs_zero]; rfl
    · rw [digs_pos h, valD, ih (n / 4294967296) (Nat.div_lt_self (Nat.pos_of_ne_zero h) (by decide))]
      exact Nat.mod_add_div _ _

theorem valD_app (l m : List Nat) : valD (l ++ m) = valD l + 4294967296 ^ l.length * valD m := by
  induction l with
  | nil => simp [valD]
  | cons d l ih => rw [List.cons_append, valD, ih, valD, List.length_cons, Nat.pow_succ, Nat.mul_add, ← Nat.add_assoc, ← Nat.mul_assoc, Nat.mul_comm (4294967296 ^ _) 4294967296]
theorem valD_snoc (l : List Nat) (d : Nat) : valD (l ++ [d]) = valD l + 4294967296 ^ l.length * d := by rw [valD_app]; simp [valD]
theorem valD_lt {l : List Nat} (h : okD l) : valD l < 4294967296 ^ l.length := by
  induction l with
  | nil => simp [valD]
  | cons d l ih =>
    have h1 := h d (by simp)
    have h2 := ih (fun x hx => h x (by simp [hx]))
    rw [valD, List.length_cons, Nat.pow_succ]
    omega
theorem okD_snoc {l : List Nat} {d : Nat} (h : okD l) (hd : d < 4294967296) : okD (l ++ [d]) := fun x hx => by
  rcases List.mem_append.1 hx with hx | hx
  · exact h x hx
  · rw [List.mem_singleton.1 hx]; exact hd
theorem okD_take {l : List Nat} (h : okD l) (k : Nat) : okD (l.take k) := fun x hx => h x (List.mem_of_mem_take hx)
theorem okD_set {l : List Nat} (h : okD l) (k : Nat) {y : Nat} (hy : y < 4294967296) : okD (l.set k y) := fun x hx => by
  rcases List.mem_or_eq_of_mem_set hx with hx | rfl
  · exact h x hx
  · exact hy

/-- a row whose highest digit isn't 0 is the number's own -/
theorem canon {l : List Nat} (h : okD l) (hl : ∀ x, l.getLast? = some x → x ≠ 0) : digs (valD l) = l := by
  induction l with
  | nil => exact digs_zero
  | cons d l ih =>
    have h1 := h d (by simp)
    have h2 : okD l := fun x hx => h x (by simp [hx])
    have h3 := ih h2 (fun x hx => by
      cases l with
      | nil => simp at hx
      | cons e l => exact hl x (by rw [List.getLast?_cons_cons]; exact hx))
    have h4 : valD (d :: l) ≠ 0 := by
      intro h0
      rw [valD] at h0
      have hd : d = 0 := by omega
      have hv : valD l = 0 := by omega
      rw [hv, digs_zero] at h3
      subst h3
      exact hl d rfl hd
    rw [digs_pos h4, valD, Nat.add_mul_mod_self_left, Nat.mod_eq_of_lt h1, Nat.add_mul_div_left _ _ (by decide), Nat.div_eq_of_lt h1, Nat.zero_add, h3]

theorem digit_digs (n i : Nat) : (digs n)[i]?.getD 0 = n / 4294967296 ^ i % 4294967296 := by
  induction i generalizing n with
  | zero =>
    by_cases h : n = 0
    · subst h; simp [digs_zero]
    · rw [digs_pos h]; simp
  | succ i ih =>
    by_cases h : n = 0
    · subst h; simp [digs_zero]
    · rw [digs_pos h, List.getElem?_cons_succ, ih, Nat.div_div_eq_div_mul, Nat.pow_succ, Nat.mul_comm 4294967296]

theorem digs_len (n k : Nat) : (digs n).length ≤ k ↔ n < 4294967296 ^ k := by
  constructor
  · intro h
    have h1 := valD_lt (digs_ok n)
    rw [val_digs] at h1
    exact Nat.lt_of_lt_of_le h1 (Nat.pow_le_pow_right (by decide) h)
  · intro h
    induction k generalizing n with
    | zero =>
      have : n = 0 := by simpa using h
      subst this; simp [digs_zero]
    | succ k ih =>
      by_cases h0 : n = 0
      · subst h0; simp [digs_zero]
      · rw [digs_pos h0, List.length_cons]
        refine Nat.succ_le_succ (ih _ ?_)
        rw [Nat.pow_succ] at h
        exact Nat.div_lt_of_lt_mul (by rw [Nat.mul_comm]; exact h)

theorem pow_split (n k : Nat) : n % 4294967296 ^ (k + 1) = n % 4294967296 ^ k + 4294967296 ^ k * (n / 4294967296 ^ k % 4294967296) := by
  rw [Nat.pow_succ, Nat.mod_mul]

/-- one step of a sum -/
theorem plus_step (a b k v c : Nat) (h : v + c * 4294967296 ^ k = a % 4294967296 ^ k + b % 4294967296 ^ k) (n : Nat) (hn : n = a / 4294967296 ^ k % 4294967296 + b / 4294967296 ^ k % 4294967296 + c) :
    v + 4294967296 ^ k * (n % 4294967296) + n / 4294967296 * 4294967296 ^ (k + 1) = a % 4294967296 ^ (k + 1) + b % 4294967296 ^ (k + 1) := by
  rw [pow_split, pow_split, Nat.pow_succ]
  have e1 := Nat.mod_add_div n 4294967296
  have e2 : 4294967296 ^ k * (n % 4294967296) + n / 4294967296 * (4294967296 ^ k * 4294967296) = 4294967296 ^ k * n := by
    conv => rhs; rw [← e1]
    rw [Nat.mul_add, Nat.mul_left_comm (n / 4294967296), Nat.mul_comm (n / 4294967296) 4294967296]
  rw [Nat.add_assoc, e2, hn, Nat.mul_add, Nat.mul_add, Nat.mul_comm _ c]
  omega
/-- one step of a difference -/
theorem less_step (a b k v c : Nat) (h : v + b % 4294967296 ^ k = a % 4294967296 ^ k + c * 4294967296 ^ k) (hc : c ≤ 1) (n : Nat)
    (hn : n + b / 4294967296 ^ k % 4294967296 + c = 4294967296 + a / 4294967296 ^ k % 4294967296) :
    v + 4294967296 ^ k * (n % 4294967296) + b % 4294967296 ^ (k + 1) = a % 4294967296 ^ (k + 1) + (1 - n / 4294967296) * 4294967296 ^ (k + 1) ∧ 1 - n / 4294967296 ≤ 1 ∧ n / 4294967296 ≤ 1 := by
  have h1 := Nat.mod_lt (a / 4294967296 ^ k) (show 0 < 4294967296 by decide)
  have h2 := Nat.mod_lt (b / 4294967296 ^ k) (show 0 < 4294967296 by decide)
  have h3 : n / 4294967296 ≤ 1 := by omega
  refine ⟨?_, by omega, h3⟩
  rw [pow_split, pow_split, Nat.pow_succ]
  generalize a / 4294967296 ^ k % 4294967296 = x at *
  generalize b / 4294967296 ^ k % 4294967296 = y at *
  generalize 4294967296 ^ k = p at *
  have e1 := Nat.mod_add_div n 4294967296
  have e3 : p * n + p * y + p * c = p * 4294967296 + p * x := by rw [← Nat.mul_add, ← Nat.mul_add, hn, Nat.mul_add]
  have e4 : p * n = p * (n % 4294967296) + p * 4294967296 * (n / 4294967296) := by
    conv => lhs; rw [← e1]
    rw [Nat.mul_add, Nat.mul_assoc]
  rw [Nat.mul_comm c p] at h
  have h5 : n / 4294967296 = 0 ∨ n / 4294967296 = 1 := by omega
  rcases h5 with h5 | h5
  · rw [h5] at e4 ⊢; omega
  · rw [h5] at e4 ⊢; omega

theorem lt_pow_len {a k : Nat} (h : (digs a).length ≤ k) : a % 4294967296 ^ k = a := Nat.mod_eq_of_lt ((digs_len a k).1 h)
end Go.Proofs.YtmifjfohanegiaaGreatDoor
