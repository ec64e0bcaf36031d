/-
  Slices of bytes at hand.
-/
import Derived.Test.YtmifjfohanegiaaGreatDoorNatA
import Derived.Deep.CutBlock
import Derived.Deep.DeepCutAuto
import Derived.Test.YtmifjfohanegiaaGreatDoorNatM
import Derived.Test.YtmifjfohanegiaaGreatDoorCalm
import Derived.StillTailTactics
import Derived.WalkSmall
import Derived.Laws.BitsAllLaws
import Derived.Deep.LoopGhost
import Derived.Test.YtmifjfohanegiaaGreatDoorRows
import Derived.Test.YtmifjfohanegiaaGreatDoorBase

namespace Go.Proofs.YtmifjfohanegiaaGreatDoor
set_option linter.unusedVariables false
open Go.RowKit

def heldI (a b : Nat) : Int := if a < b then -1 else if a = b then 0 else 1
theorem held_step {a b k : Nat} (h : a / 4294967296 ^ (k + 1) = b / 4294967296 ^ (k + 1)) :
    (a / 4294967296 ^ k % 4294967296 < b / 4294967296 ^ k % 4294967296 → heldI a b = -1) ∧ (b / 4294967296 ^ k % 4294967296 < a / 4294967296 ^ k % 4294967296 → heldI a b = 1) ∧
    (a / 4294967296 ^ k % 4294967296 = b / 4294967296 ^ k % 4294967296 → a / 4294967296 ^ k = b / 4294967296 ^ k) := by
  have ea : a / 4294967296 ^ (k + 1) = a / 4294967296 ^ k / 4294967296 := by rw [Nat.pow_succ, ← Nat.div_div_eq_div_mul]
  have eb : b / 4294967296 ^ (k + 1) = b / 4294967296 ^ k / 4294967296 := by rw [Nat.pow_succ, ← Nat.div_div_eq_div_mul]
  rw [ea, eb] at h
  have key : ∀ x y : Nat, x / 4294967296 ^ k < y / 4294967296 ^ k → x < y := fun x y hxy => by
    rcases Nat.lt_or_ge x y with h1 | h1
    · exact h1
    · exact absurd (Nat.div_le_div_right (c := 4294967296 ^ k) h1) (Nat.not_le_of_lt hxy)
  have k1 := key a b
  have k2 := key b a
  clear ea eb key
  generalize a / 4294967296 ^ k = A at *
  generalize b / 4294967296 ^ k = B at *
  refine ⟨fun hlt => ?_, fun hlt => ?_, fun he => by omega⟩
  · have := k1 (by omega)
    unfold heldI; rw [if_pos this]
  · have := k2 (by omega)
    unfold heldI; rw [if_neg (by omega), if_neg (by omega)]

def HeldAt (a b : Nat) (k : Nat) (x : Value) : Prop := ∃ j : Nat, x = .int .i64 ((j : Int) - 1) ∧ j ≤ k ∧ a / 4294967296 ^ j = b / 4294967296 ^ j
theorem div_pow_len {a k : Nat} (h : (digs a).length ≤ k) : a / 4294967296 ^ k = 0 := Nat.div_eq_of_lt ((digs_len a k).1 h)

theorem word_val (n : Nat) : (digs n)[0]?.getD 0 + 4294967296 * ((digs n)[1]?.getD 0) = n % 18446744073709551616 := by
  rw [digit_digs, digit_digs]
  simp only [Nat.pow_zero, Nat.div_one, Nat.pow_one]
  omega

theorem or_zero64 (x : Nat) (hx : x < 4294967296) : bits .or .u64 0 (x : Int) = (x : Int) := by
  have h := bits_or_u64_nat 0 x (by decide) (by omega)
  rw [Nat.zero_or] at h
  exact h
theorem p32 : (2 : Nat) ^ 32 = 4294967296 := by decide +kernel
theorem or_words (x y : Nat) (hx : x < 4294967296) (hy : y < 4294967296) : bits .or .u64 (x : Int) ((y : Int) * 4294967296) = ((x + 4294967296 * y : Nat) : Int) := by
  have h := bits_or_u64_nat x (y * 4294967296) (by omega) (by omega)
  have e := Nat.shiftLeft_add_eq_or_of_lt (i := 32) (b := x) (by rw [p32]; exact hx) y
  rw [Nat.shiftLeft_eq, Nat.or_comm, p32] at e
  rw [← e, Nat.add_comm, Nat.mul_comm y] at h
  rw [← h, Int.natCast_mul, Int.mul_comm]
  rfl

end Go.Proofs.YtmifjfohanegiaaGreatDoor

namespace Go.Proofs.YtmifjfohanegiaaGreatDoor
set_option linter.unusedVariables false
open Go.RowKit

def BoolV (b : Bool) (x : Value) : Prop := x = .bool b
/-- the sum, as far as the loop has come -/
def PlusAt (m n K : Nat) (w wr : World) (v c i : Value) : Prop := ∃ (k cy : Nat) (xs : List Nat), i = .int .i64 (k : Nat) ∧ k ≤ K + 1 ∧ c = .int .u64 (cy : Nat) ∧ cy ≤ 1 ∧
  Owns wr w.heap.size 82 1 enW v xs ∧ xs.length = k ∧ okD xs ∧ valD xs + cy * 4294967296 ^ k = m % 4294967296 ^ k + n % 4294967296 ^ k ∧ Below w.heap.size w wr

theorem plus_end {m n K v c : Nat} (hm : m < 4294967296 ^ K) (hn : n < 4294967296 ^ K) (h : v + c * 4294967296 ^ (K + 1) = m % 4294967296 ^ (K + 1) + n % 4294967296 ^ (K + 1)) (hc : c ≤ 1) : v = m + n := by
  have hp : 4294967296 ^ (K + 1) = 4294967296 ^ K * 4294967296 := Nat.pow_succ ..
  rw [Nat.mod_eq_of_lt (by omega), Nat.mod_eq_of_lt (by omega)] at h
  have : c = 0 ∨ c = 1 := by omega
  rcases this with rfl | rfl
  · simpa using h
  · omega

end Go.Proofs.YtmifjfohanegiaaGreatDoor

namespace Go.Proofs.YtmifjfohanegiaaGreatDoor
set_option linter.unusedVariables false
open Go.RowKit

def LessAt (m n K : Nat) (w wr : World) (v c i : Value) : Prop := ∃ (k cy : Nat) (xs : List Nat), i = .int .i64 (k : Nat) ∧ k ≤ K ∧ c = .int .u64 (cy : Nat) ∧ cy ≤ 1 ∧
  Owns wr w.heap.size 82 1 enW v xs ∧ xs.length = k ∧ okD xs ∧ valD xs + n % 4294967296 ^ k = m % 4294967296 ^ k + cy * 4294967296 ^ k ∧ Below w.heap.size w wr

theorem less_end {m n K v c : Nat} (hm : m < 4294967296 ^ K) (hnm : n ≤ m) (hv : v < 4294967296 ^ K) (h : v + n % 4294967296 ^ K = m % 4294967296 ^ K + c * 4294967296 ^ K) (hc : c ≤ 1) : v = m - n := by
  rw [Nat.mod_eq_of_lt (by omega), Nat.mod_eq_of_lt hm] at h
  have : c = 0 ∨ c = 1 := by omega
  rcases this with rfl | rfl <;> omega

end Go.Proofs.YtmifjfohanegiaaGreatDoor

namespace Go.Proofs.YtmifjfohanegiaaGreatDoor
set_option linter.unusedVariables false

theorem p32' : (2 : Nat) ^ 32 = 4294967296 := by decide +kernel
theorem powB (j : Nat) : 4294967296 ^ j = 2 ^ (32 * j) := by rw [Nat.pow_mul, p32']

theorem digit_val {l : List Nat} (hl : okD l) (j : Nat) (hj : j < l.length) : l[j] = valD l / 4294967296 ^ j % 4294967296 := by
  induction l generalizing j with
  | nil => simp at hj
  | cons d l ih =>
    have h1 := hl d (by simp)
    cases j with
    | zero => rw [List.getElem_cons_zero, valD, Nat.pow_zero, Nat.div_one]; omega
    | succ j =>
      rw [List.getElem_cons_succ, ih (fun x hx => hl x (by simp [hx])) j (by simpa using hj), valD, Nat.pow_succ, Nat.mul_comm (4294967296 ^ j), ← Nat.div_div_eq_div_mul]
      congr 2
      omega

theorem valD_set (l : List Nat) (j : Nat) (hj : j < l.length) (y : Nat) : valD (l.set j y) + 4294967296 ^ j * l[j] = valD l + 4294967296 ^ j * y := by
  induction l generalizing j with
  | nil => simp at hj
  | cons d l ih =>
    cases j with
    | zero => simp [valD]; omega
    | succ j =>
      have := ih j (by simpa using hj)
      rw [List.set_cons_succ, valD, valD, List.getElem_cons_succ, Nat.pow_succ, Nat.mul_comm (4294967296 ^ j), Nat.mul_assoc, Nat.mul_assoc]
      omega

theorem bit_val (m i : Nat) : m / 4294967296 ^ (i / 32) % 4294967296 / 2 ^ (i % 32) % 2 = m / 2 ^ i % 2 := by
  have hs : i % 32 < 32 := Nat.mod_lt _ (by decide)
  have e : i = 32 * (i / 32) + i % 32 := (Nat.div_add_mod i 32).symm
  have e1 : m / 2 ^ i = m / 4294967296 ^ (i / 32) / 2 ^ (i % 32) := by
    conv => lhs; rw [e]
    rw [powB, Nat.pow_add, Nat.div_div_eq_div_mul]
  rw [e1]
  generalize m / 4294967296 ^ (i / 32) = x
  generalize i % 32 = s at *
  have e2 : (4294967296 : Nat) = 2 ^ s * 2 ^ (32 - s) := by rw [← Nat.pow_add, show s + (32 - s) = 32 by omega, p32']
  rw [e2, Nat.mod_mul_right_div_self]
  have e3 : (2 : Nat) ^ (32 - s) = 2 * 2 ^ (31 - s) := by rw [show 32 - s = (31 - s) + 1 by omega, Nat.pow_succ, Nat.mul_comm]
  rw [e3, Nat.mod_mul_right_mod]

/-- a bit that isn't there yet -/
theorem or_bit {x s : Nat} (h : 2 ^ (s + 1) ∣ x) : x ||| 2 ^ s = x + 2 ^ s := by
  obtain ⟨c, rfl⟩ := h
  have := Nat.shiftLeft_add_eq_or_of_lt (i := s + 1) (b := 2 ^ s) (Nat.pow_lt_pow_right (by decide) (by omega)) c
  rw [Nat.shiftLeft_eq, Nat.mul_comm] at this
  exact this.symm

theorem digit_low {v i Q : Nat} (hv : v = 2 ^ (i + 1) * Q) : 2 ^ (i % 32 + 1) ∣ v / 4294967296 ^ (i / 32) % 4294967296 := by
  have hs : i % 32 < 32 := Nat.mod_lt _ (by decide)
  have e : i + 1 = 32 * (i / 32) + (i % 32 + 1) := by have := Nat.div_add_mod i 32; omega
  have e3 : 2 ^ (32 * (i / 32) + (i % 32 + 1)) = 4294967296 ^ (i / 32) * 2 ^ (i % 32 + 1) := by rw [Nat.pow_add 2 (32 * (i / 32)), ← powB]
  rw [hv, e, e3, Nat.mul_assoc, Nat.mul_div_cancel_left _ (Nat.pow_pos (by decide))]
  generalize i % 32 = s at *
  have e2 : (4294967296 : Nat) = 2 ^ (s + 1) * 2 ^ (31 - s) := by rw [← Nat.pow_add, show s + 1 + (31 - s) = 32 by omega, p32']
  rw [e2, Nat.mul_mod_mul_left]
  exact ⟨_, rfl⟩

/-- what the division has when i bits are left -/
structure DivS (m n i v r : Nat) : Prop where
  lt : r < n
  ex : ∃ Q, v = 2 ^ i * Q ∧ Q * n + r = m / 2 ^ i
theorem div_bit {m i : Nat} : m / 2 ^ i = 2 * (m / 2 ^ (i + 1)) + m / 2 ^ i % 2 := by
  rw [Nat.pow_succ, ← Nat.div_div_eq_div_mul]
  omega
theorem divS_no {m n i v r : Nat} (h : DivS m n (i + 1) v r) (hlt : r + r + m / 2 ^ i % 2 < n) : DivS m n i v (r + r + m / 2 ^ i % 2) := by
  obtain ⟨h1, Q, h2, h3⟩ := h
  refine ⟨hlt, 2 * Q, by rw [h2, Nat.pow_succ, Nat.mul_assoc], ?_⟩
  conv => rhs; rw [div_bit, ← h3]
  rw [Nat.mul_assoc]
  omega
theorem divS_yes {m n i v r : Nat} (h : DivS m n (i + 1) v r) (hge : n ≤ r + r + m / 2 ^ i % 2) : DivS m n i (v + 2 ^ i) (r + r + m / 2 ^ i % 2 - n) := by
  obtain ⟨h1, Q, h2, h3⟩ := h
  have hb : m / 2 ^ i % 2 < 2 := Nat.mod_lt _ (by decide)
  refine ⟨by omega, 2 * Q + 1, by rw [h2, Nat.pow_succ, Nat.mul_add, Nat.mul_assoc, Nat.mul_one], ?_⟩
  conv => rhs; rw [div_bit, ← h3]
  rw [Nat.add_mul, Nat.mul_assoc]
  omega
theorem divS_end {m n v r : Nat} (h : DivS m n 0 v r) : v = m / n ∧ r = m % n := by
  obtain ⟨h1, Q, h2, h3⟩ := h
  rw [Nat.pow_zero, Nat.div_one] at h3
  rw [Nat.pow_zero, Nat.one_mul] at h2
  subst h2
  rw [← h3, Nat.mul_comm, Nat.mul_add_div (by omega), Nat.div_eq_of_lt h1, Nat.mul_add_mod, Nat.mod_eq_of_lt h1]
  exact ⟨rfl, rfl⟩
theorem divS_start (m n K : Nat) (hm : m < 4294967296 ^ K) (hn : 0 < n) : DivS m n (32 * K) 0 0 :=
  ⟨hn, 0, by simp, by rw [← powB, Nat.div_eq_of_lt hm]; simp⟩
theorem valD_zeros (k : Nat) : valD (List.replicate k 0) = 0 := by
  induction k with
  | zero => rfl
  | succ k ih => rw [List.replicate_succ, valD, ih]

/-- a bit of the quotient is laid -/
theorem bit_put {xs : List Nat} (hok : okD xs) {m n i r q s : Nat} (h : DivS m n (i + 1) (valD xs) r) (hq : q = i / 32) (hs : s = i % 32) (hql : q < xs.length) :
    ∃ x, xs[q] = x ∧ x < 4294967296 ∧ x ||| 2 ^ s = x + 2 ^ s ∧ 2 ^ s < 4294967296 ∧ x + 2 ^ s < 4294967296 ∧ valD (xs.set q (x + 2 ^ s)) = valD xs + 2 ^ i := by
  have hs32 : s < 32 := by omega
  have hxd := digit_val hok q hql
  have hxl := hok xs[q] (List.getElem_mem _)
  have hset := fun y => valD_set xs q hql y
  have hlow : 2 ^ (s + 1) ∣ xs[q] := by
    obtain ⟨Q, hQ1, _⟩ := h.ex
    rw [hxd, hq, hs]
    exact digit_low hQ1
  clear hxd
  generalize xs[q] = x at *
  refine ⟨x, rfl, hxl, or_bit hlow, ?_, ?_, ?_⟩
  · rw [← p32']; exact Nat.pow_lt_pow_right (by decide) hs32
  · obtain ⟨c, hc⟩ := hlow
    have e2 : (4294967296 : Nat) = 2 ^ (s + 1) * 2 ^ (31 - s) := by rw [← Nat.pow_add, show s + 1 + (31 - s) = 32 by omega, p32']
    have hc2 : c < 2 ^ (31 - s) := by
      rw [hc, e2] at hxl
      exact Nat.lt_of_mul_lt_mul_left hxl
    have h3 := Nat.mul_le_mul_left (2 ^ (s + 1)) (show c + 1 ≤ 2 ^ (31 - s) from hc2)
    rw [← e2, Nat.mul_add, ← hc, Nat.mul_one, Nat.pow_succ] at h3
    have hp : 0 < 2 ^ s := Nat.pow_pos (by decide)
    omega
  · have e : 4294967296 ^ q * 2 ^ s = 2 ^ i := by rw [powB, ← Nat.pow_add, hq, hs, Nat.div_add_mod]
    have h4 := hset (x + 2 ^ s)
    rw [Nat.mul_add, e] at h4
    omega
end Go.Proofs.YtmifjfohanegiaaGreatDoor

namespace Go.Proofs.YtmifjfohanegiaaGreatDoor
set_option linter.unusedVariables false
open Go.RowKit

/-- two slices in blocks apart -/
def ApartV (v u : Value) : Prop := ∀ ad n c, v = .slice (some ad) n c → ∀ bd n' c', u = .slice (some bd) n' c' → ad.block ≠ bd.block
def BelowV (B : Nat) (u : Value) : Prop := ∀ bd n c, u = .slice (some bd) n c → bd.block < B
theorem belowV_of_owns {α : Type} {w : World} {base : Nat} {e : TypeId} {size : Nat} {en : α → List Value} {v : Value} {xs : List α} (h : Owns w base e size en v xs) : BelowV w.heap.size v := fun bd n c he => by
  subst he
  exact (h.lt bd.block rfl).2
theorem apart_of {B B' : Nat} {v u : Value} (h : FreshV B v) (h2 : BelowV B' u) (hB : B' ≤ B) : ApartV v u := fun ad n c e1 bd n' c' e2 => by
  have := h ad n c e1
  have := h2 bd n' c' e2
  omega
theorem natV_set {w : World} {v : Value} {n : Nat} (h : NatV w v n) {g q len cap : Nat} {u : Value} (ha : ApartV v (.slice (some ⟨g, 0, none⟩) len cap)) : NatV (w.setCell ⟨g, q, none⟩ u) v n := by
  obtain ⟨a, c, rfl, hs⟩ := h
  refine ⟨a, c, rfl, hs.of_block fun b o e => ?_⟩
  subst e
  exact Below.heap_setCell w _ u b (ha _ _ _ rfl ⟨g, 0, none⟩ _ _ rfl)
/-- quotient and rest, as the loop has them -/
def DivAt (m n K : Nat) (w wr : World) (vq vr i : Value) : Prop := ∃ (j r : Nat) (xs : List Nat), i = .int .i64 ((j : Int) - 1) ∧ j ≤ 32 * K ∧ Owns wr w.heap.size 82 1 enW vq xs ∧ xs.length = K ∧ okD xs ∧
  DivS m n j (valD xs) r ∧ NatV wr vr r ∧ ApartV vr vq ∧ Below w.heap.size w wr
def RetTwo (w : World) (q r : Nat) (e : Ending) (w' : World) : Prop := ∃ v u, e = .returned (.tuple #[v, u]) ∧ NatV w' v q ∧ NatV w' u r ∧ Below w.heap.size w w'
theorem natV_nil (w : World) : NatV w (.slice none 0 0) 0 := ⟨none, 0, by rw [digs_zero]; rfl, by rw [digs_zero]; exact SlOf.nil _ _ _⟩

theorem wrap32N (a : Nat) (h : a < 4294967296) : IntKind.u32.wrap (a : Int) = (a : Int) := by unfold IntKind.wrap; simp [IntKind.bits, IntKind.signed]; omega
theorem and_one_nat (x : Nat) (h : x < 4294967296) : bits .and .u64 (x : Int) 1 = ((x % 2 : Nat) : Int) := by
  rw [and_one_u64 _ (by omega) (by omega)]; omega

end Go.Proofs.YtmifjfohanegiaaGreatDoor

namespace Go.Proofs.YtmifjfohanegiaaGreatDoor
set_option linter.unusedVariables false

/-- the row that the product is laid in: i digits of the one number, k of the next one's are worked in -/
structure MulS (m n L i k : Nat) (xs : List Nat) (c : Nat) : Prop where
  len : xs.length = L
  ok : okD xs
  car : c < 4294967296
  val : valD xs + c * 4294967296 ^ (i + k) = (m % 4294967296 ^ i) * n + 4294967296 ^ i * (m / 4294967296 ^ i % 4294967296) * (n % 4294967296 ^ k)
  high : ∀ j, (h : j < xs.length) → i + (digs n).length ≤ j → xs[j] = 0
/-- between two digits of the one number -/
structure MulR (m n L i : Nat) (xs : List Nat) : Prop where
  len : xs.length = L
  ok : okD xs
  val : valD xs = (m % 4294967296 ^ i) * n
  high : ∀ j, (h : j < xs.length) → i + (digs n).length ≤ j → xs[j] = 0

theorem mulR_start (m n L : Nat) : MulR m n L 0 (List.replicate L 0) :=
  ⟨List.length_replicate, fun x hx => by rw [(List.mem_replicate.1 hx).2]; decide, by rw [valD_zeros]; simp [Nat.mod_one], fun j h _ => by simp⟩
theorem mulR_in {m n L i : Nat} {xs : List Nat} (h : MulR m n L i xs) : MulS m n L i 0 xs 0 :=
  ⟨h.len, h.ok, by decide, by rw [h.val]; simp [Nat.mod_one], h.high⟩
theorem mulR_end {m n L i : Nat} {xs : List Nat} (h : MulR m n L i xs) (hi : (digs m).length ≤ i) : valD xs = m * n := by
  rw [h.val, lt_pow_len hi]

theorem mul_fits {x y l c : Nat} (hx : x < 4294967296) (hy : y < 4294967296) (hl : l < 4294967296) (hc : c < 4294967296) : x * y + l + c < 18446744073709551616 := by
  have := Nat.mul_le_mul (show x ≤ 4294967295 by omega) (show y ≤ 4294967295 by omega)
  omega
/-- a digit more -/
theorem mulS_step {m n L i k : Nat} {xs : List Nat} {c : Nat} (h : MulS m n L i k xs c) (hL : i + k < L) (hk : k < (digs n).length) (N : Nat)
    (hN : N = m / 4294967296 ^ i % 4294967296 * (n / 4294967296 ^ k % 4294967296) + xs[i + k]'(by rw [h.len]; exact hL) + c) :
    MulS m n L i (k + 1) (xs.set (i + k) (N % 4294967296)) (N / 4294967296) ∧ N < 18446744073709551616 := by
  have hl : i + k < xs.length := by rw [h.len]; exact hL
  have hx := Nat.mod_lt (m / 4294967296 ^ i) (show 0 < 4294967296 by decide)
  have hy := Nat.mod_lt (n / 4294967296 ^ k) (show 0 < 4294967296 by decide)
  have hlt := h.ok xs[i + k] (List.getElem_mem _)
  have hset := valD_set xs (i + k) hl (N % 4294967296)
  have hfit := mul_fits hx hy hlt h.car
  rw [← hN] at hfit
  refine ⟨⟨by rw [List.length_set]; exact h.len, okD_set h.ok _ (Nat.mod_lt _ (by decide)), by omega, ?_, ?_⟩, hfit⟩
  · rw [pow_split n k, ← Nat.add_assoc, Nat.pow_succ 4294967296 (i + k), Nat.mul_add, ← Nat.add_assoc, ← h.val]
    have hp : 4294967296 ^ i * (m / 4294967296 ^ i % 4294967296) * (4294967296 ^ k * (n / 4294967296 ^ k % 4294967296)) = 4294967296 ^ (i + k) * (m / 4294967296 ^ i % 4294967296 * (n / 4294967296 ^ k % 4294967296)) := by
      rw [Nat.pow_add, Nat.mul_mul_mul_comm]
    rw [hp]
    generalize 4294967296 ^ (i + k) = p at *
    generalize m / 4294967296 ^ i % 4294967296 * (n / 4294967296 ^ k % 4294967296) = xy at *
    generalize xs[i + k] = l at *
    have e1 := Nat.mod_add_div N 4294967296
    have e2 : p * (N % 4294967296) + N / 4294967296 * (p * 4294967296) = p * N := by
      conv => rhs; rw [← e1]
      rw [Nat.mul_add, Nat.mul_left_comm (N / 4294967296), Nat.mul_comm (N / 4294967296) 4294967296]
    have e3 : p * N = p * xy + p * l + c * p := by rw [hN, Nat.mul_add, Nat.mul_add, Nat.mul_comm c p]
    omega
  · intro j hj hij
    rw [List.length_set] at hj
    rw [List.getElem_set_ne (by omega)]
    exact h.high j hj hij
/-- a row is through -/
theorem mulS_out {m n L i : Nat} {xs : List Nat} {c : Nat} (h : MulS m n L i (digs n).length xs c) (hL : i + (digs n).length < L) :
    MulR m n L (i + 1) (xs.set (i + (digs n).length) c) := by
  have hl : i + (digs n).length < xs.length := by rw [h.len]; exact hL
  have hset := valD_set xs (i + (digs n).length) hl c
  rw [h.high _ hl (Nat.le_refl _), Nat.mul_zero, Nat.add_zero, Nat.mul_comm _ c, h.val, lt_pow_len (Nat.le_refl _)] at hset
  refine ⟨by rw [List.length_set]; exact h.len, okD_set h.ok _ h.car, ?_, ?_⟩
  · rw [hset, pow_split m i, Nat.add_mul]
  · intro j hj hij
    rw [List.length_set] at hj
    rw [List.getElem_set_ne (by omega)]
    exact h.high j hj (by omega)
theorem mulS_out' {m n L i J : Nat} {xs : List Nat} {c : Nat} (hJ : (digs n).length = J) (h : MulS m n L i J xs c) (hL : i + J < L) : MulR m n L (i + 1) (xs.set (i + J) c) := by
  subst hJ; exact mulS_out h hL
end Go.Proofs.YtmifjfohanegiaaGreatDoor

namespace Go.Proofs.YtmifjfohanegiaaGreatDoor
set_option linter.unusedVariables false
open Go.RowKit

theorem u64N (a : Nat) (h : a < 18446744073709551616) : IntKind.u64.wrap (a : Int) = (a : Int) := by unfold IntKind.wrap; simp [IntKind.bits, IntKind.signed]; omega
theorem u32mod (a : Nat) : IntKind.u32.wrap (a : Int) = ((a % 4294967296 : Nat) : Int) := by unfold IntKind.wrap; simp [IntKind.bits, IntKind.signed]

end Go.Proofs.YtmifjfohanegiaaGreatDoor

namespace Go.Proofs.YtmifjfohanegiaaGreatDoor
set_option linter.unusedVariables false
open Go.RowKit

def enByte (b : UInt8) : List Value := [.int .u8 (b.toNat : Int)]
theorem enByte_len (b : UInt8) : (enByte b).length = 1 := rfl
theorem flat_byte : IsFlat Tryz.prog 5 1 enByte (fun _ => True) := by
  refine ⟨by kernel_rfl, fun _ => rfl, ?_⟩
  intro H enc w base spare held fuel cs x hx
  obtain ⟨n, rfl, _, wf⟩ := DataW.trod_int Tryz.underlying5 hx
  have hb := u8_bd wf
  obtain ⟨m, rfl⟩ := Int.eq_ofNat_of_zero_le hb.1
  refine ⟨UInt8.ofNat m, trivial, ?_⟩
  have : (UInt8.ofNat m).toNat = m := by rw [UInt8.toNat_ofNat']; omega
  simp [enByte, this]

theorem bytes_ty : SlTy Tryz.prog 108 5 1 1 := SlTy.mk' (.int .u8 0) Tryz.underlying108 (by kernel_rfl) rfl (by decide) (by decide)

abbrev SlY (w : World) (a : Option Addr) (cap : Nat) (l : List UInt8) : Prop := SlOf w enByte 1 a cap l
theorem SlY.at {w : World} {a : Option Addr} {cap : Nat} {l : List UInt8} (h : SlY w a cap l) {k : Nat} (hk : k < l.length) : ∃ b o, a = some ⟨b, o, none⟩ ∧ b < w.heap.size ∧ w.cell? ⟨b, o + k, none⟩ = some (.int .u8 (l[k].toNat : Int)) :=
  SlOf.cell1 h (fun x => .int .u8 (x.toNat : Int)) (fun _ => rfl) hk

end Go.Proofs.YtmifjfohanegiaaGreatDoor
