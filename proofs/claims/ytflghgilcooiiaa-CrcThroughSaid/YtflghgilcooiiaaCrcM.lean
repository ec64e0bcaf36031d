/-
  Plain facts on the sum of 15 bits: it is linear, a row with its sum has the sum 0, at most five places that are turned are seen. (No program here.)
-/
import Derived.WalkKit
namespace Go.Proofs.Ytflghgilcooiiaa
set_option linter.unusedVariables false

/-- the register behind a bit more -/
def nx (r : Nat) (b : Bool) : Nat := if (r / 16384 == 1) == b then r * 2 % 32768 else (r * 2 % 32768) ^^^ 17817
def crcN (l : List Bool) : Nat := l.foldl nx 0

theorem nx_lt (r : Nat) (b : Bool) : nx r b < 32768 := by
  unfold nx
  split
  · exact Nat.mod_lt _ (by decide)
  · exact Nat.xor_lt_two_pow (n := 15) (Nat.mod_lt _ (by decide)) (by decide)
theorem foldl_lt : ∀ (l : List Bool) (r : Nat), r < 32768 → l.foldl nx r < 32768
  | [], _, h => h
  | b :: l, r, _ => foldl_lt l (nx r b) (nx_lt r b)
theorem crcN_lt (l : List Bool) : crcN l < 32768 := foldl_lt l 0 (by decide)
theorem crcN_snoc (l : List Bool) (b : Bool) : crcN (l ++ [b]) = nx (crcN l) b := by simp [crcN, List.foldl_append]

/-- the bits of a sum, the highest first -/
def sumBits (n : Nat) : List Bool := (List.range 15).map fun j => n / 2 ^ (14 - j) % 2 == 1
def withN (l : List Bool) : List Bool := l ++ sumBits (crcN l)
theorem sumBits_len (n : Nat) : (sumBits n).length = 15 := by simp [sumBits]

theorem nxs (s t : Nat) (b : Bool) (h1 : (s / 16384 = 1) ↔ b = true) (h2 : t = s * 2 % 32768) : nx s b = t := by
  unfold nx
  rw [if_pos, h2]
  rw [beq_iff_eq, Bool.eq_iff_iff, beq_iff_eq]
  exact h1

theorem fold_own (r : Nat) (h : r < 32768) : (sumBits r).foldl nx r = 0 := by
  have e : sumBits r = [r / 16384 % 2 == 1, r / 8192 % 2 == 1, r / 4096 % 2 == 1, r / 2048 % 2 == 1, r / 1024 % 2 == 1, r / 512 % 2 == 1, r / 256 % 2 == 1, r / 128 % 2 == 1, r / 64 % 2 == 1, r / 32 % 2 == 1, r / 16 % 2 == 1, r / 8 % 2 == 1, r / 4 % 2 == 1, r / 2 % 2 == 1, r / 1 % 2 == 1] := rfl
  rw [e]
  simp only [List.foldl_cons, List.foldl_nil]
  rw [nxs r (r * 2 % 32768) _ (by simp; omega) (by omega),
    nxs (r * 2 % 32768) (r * 4 % 32768) _ (by simp; omega) (by omega),
    nxs (r * 4 % 32768) (r * 8 % 32768) _ (by simp; omega) (by omega),
    nxs (r * 8 % 32768) (r * 16 % 32768) _ (by simp; omega) (by omega),
    nxs (r * 16 % 32768) (r * 32 % 32768) _ (by simp; omega) (by omega),
    nxs (r * 32 % 32768) (r * 64 % 32768) _ (by simp; omega) (by omega),
    nxs (r * 64 % 32768) (r * 128 % 32768) _ (by simp; omega) (by omega),
    nxs (r * 128 % 32768) (r * 256 % 32768) _ (by simp; omega) (by omega),
    nxs (r * 256 % 32768) (r * 512 % 32768) _ (by simp; omega) (by omega),
    nxs (r * 512 % 32768) (r * 1024 % 32768) _ (by simp; omega) (by omega),
    nxs (r * 1024 % 32768) (r * 2048 % 32768) _ (by simp; omega) (by omega),
    nxs (r * 2048 % 32768) (r * 4096 % 32768) _ (by simp; omega) (by omega),
    nxs (r * 4096 % 32768) (r * 8192 % 32768) _ (by simp; omega) (by omega),
    nxs (r * 8192 % 32768) (r * 16384 % 32768) _ (by simp; omega) (by omega),
    nxs (r * 16384 % 32768) (r * 32768 % 32768) _ (by simp; omega) (by omega)]
  omega

theorem withN_zero (l : List Bool) : crcN (withN l) = 0 := by
  unfold withN
  have := fold_own (crcN l) (crcN_lt l)
  unfold crcN at this ⊢
  rw [List.foldl_append]
  exact this

theorem crcN_ahead (n : Nat) (l : List Bool) : crcN (List.replicate n false ++ l) = crcN l := by
  have : ∀ n, (List.replicate n false).foldl nx 0 = 0 := by
    intro n
    induction n with
    | zero => rfl
    | succ n ih => rw [List.replicate_succ, List.foldl_cons]; exact ih
  unfold crcN
  rw [List.foldl_append, this]

/-! ### linear -/
theorem hi_test (r : Nat) (h : r < 32768) : (r / 16384 == 1) = r.testBit 14 := by
  rw [Nat.testBit_eq_decide_div_mod_eq, Bool.eq_iff_iff]
  simp only [beq_iff_eq, decide_eq_true_eq, Nat.reducePow]
  omega
theorem nx_eq (r : Nat) (b : Bool) : nx r b = (r * 2 % 32768) ^^^ (if (r / 16384 == 1) == b then 0 else 17817) := by
  unfold nx
  split <;> simp
theorem dbl_xor (r s : Nat) : (r ^^^ s) * 2 % 32768 = (r * 2 % 32768) ^^^ (s * 2 % 32768) := by
  have e : ∀ x : Nat, x * 2 % 32768 = (x <<< 1) % 2 ^ 15 := fun x => by rw [Nat.shiftLeft_eq]
  rw [e, e, e, Nat.shiftLeft_xor_distrib, Nat.xor_mod_two_pow]
theorem nx_xor (r s : Nat) (hr : r < 32768) (hs : s < 32768) (a b : Bool) : nx (r ^^^ s) (a ^^ b) = nx r a ^^^ nx s b := by
  have hrs : r ^^^ s < 32768 := Nat.xor_lt_two_pow (n := 15) hr hs
  rw [nx_eq, nx_eq, nx_eq, dbl_xor, hi_test _ hr, hi_test _ hs, hi_test _ hrs, Nat.testBit_xor]
  have e : ∀ p q u v : Nat, (p ^^^ q) ^^^ (u ^^^ v) = (p ^^^ u) ^^^ (q ^^^ v) := by
    intro p q u v
    rw [Nat.xor_assoc, Nat.xor_assoc, ← Nat.xor_assoc q, Nat.xor_comm q u, Nat.xor_assoc u]
  rw [← e]
  congr 1
  cases r.testBit 14 <;> cases s.testBit 14 <;> cases a <;> cases b <;> rfl
theorem foldl_xor : ∀ (x y : List Bool) (r s : Nat), x.length = y.length → r < 32768 → s < 32768 →
    (List.zipWith (· ^^ ·) x y).foldl nx (r ^^^ s) = x.foldl nx r ^^^ y.foldl nx s
  | [], [], _, _, _, _, _ => rfl
  | a :: x, b :: y, r, s, h, hr, hs => by
    rw [List.zipWith_cons_cons, List.foldl_cons, List.foldl_cons, List.foldl_cons, nx_xor r s hr hs]
    exact foldl_xor x y _ _ (by simpa using h) (nx_lt _ _) (nx_lt _ _)
  | [], _ :: _, _, _, h, _, _ => by simp at h
  | _ :: _, [], _, _, h, _, _ => by simp at h
theorem crcN_xor (x y : List Bool) (h : x.length = y.length) : crcN (List.zipWith (· ^^ ·) x y) = crcN x ^^^ crcN y :=
  foldl_xor x y 0 0 h (by decide) (by decide)
end Go.Proofs.Ytflghgilcooiiaa
