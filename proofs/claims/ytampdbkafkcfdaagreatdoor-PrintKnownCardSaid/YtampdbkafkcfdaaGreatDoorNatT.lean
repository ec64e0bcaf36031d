/-
  The reference's natural numbers: contract of times.
-/
import Derived.Test.YtampdbkafkcfdaaGreatDoorRows
import Derived.Test.YtampdbkafkcfdaaGreatDoorBaseD
import Derived.Test.YtampdbkafkcfdaaGreatDoorRatN
import Derived.BigQuiet
import Derived.Laws.IdiomStrings
import Derived.WalkLawsBesides
import Derived.Deep.CutBlock
import Derived.Deep.DeepCutAuto
import Derived.Test.YtampdbkafkcfdaaGreatDoorCalm
import Derived.StillTailTactics
import Derived.WalkSmall
import Derived.Laws.BitsAllLaws
import Derived.Deep.LoopGhost

namespace Go.Proofs.YtampdbkafkcfdaaGreatDoor
set_option linter.unusedVariables false

/-- the digits, the lowest first, none highest that is 0 -/
def digs (n : Nat) : List Nat := if h : n = 0 then [] else n % 4294967296 :: digs (n / 4294967296)
termination_by n
decreasing_by exact Nat.div_lt_self (Nat.pos_of_ne_zero h) (by decide)
def valD : List Nat → Nat
  | [] => 0
  | d :: l => d + 4294967296 * valD l
def okD (l : List Nat) : Prop := ∀ d ∈ l, d < 4294967296

theorem digs_zero : digs 0 = [] := by unfold digs; rfl
theorem digs_pos {n : Nat} (h : n ≠ 0) : digs n = n % 4294967296 :: digs (n / 4294967296) := by
  conv => lhs; unfold digs
  rw [dif_neg h]
theorem digs_nil {n : Nat} : digs n = [] ↔ n = 0 := by
  by_cases h : n = 0
  · subst h; simp [digs_zero]
  · rw [digs_pos h]; simp [h]

theorem digs_ok (n : Nat) : okD (digs n) := by
  induction n using Nat.strongRecOn with
  | _ n ih =>
    by_cases h : n = 0
    · subst h; rw [digs_zero]; intro d hd; cases hd
    · rw [digs_pos h]
      intro d hd
      rcases List.mem_cons.1 hd with rfl | hd
      · exact Nat.mod_lt _ (by decide)
      · exact ih (n / 4294967296) (Nat.div_lt_self (Nat.pos_of_ne_zero h) (by decide)) d hd

theorem val_digs (n : Nat) : valD (digs n) = n := by
  induction n using Nat.strongRecOn with
  | _ n ih =>
    by_cases h : n = 0
    · subst h; rw [digs_zero]; rfl
    · rw [digs_pos h, valD, ih (n / 4294967296) (Nat.div_lt_self (Nat.pos_of_ne_zero h) (by decide))]
      exact Nat.mod_add_div _ _

theorem valD_app (l m : List Nat) : valD (l ++ m) = valD l + 4294967296 ^ l.length * valD m := by
  induction l with
  | nil => simp [valD]
  | cons d l ih => rw [List.cons_append, valD, ih, valD, List.length_cons, Nat.pow_succ, Nat.mul_add, ← Nat.add_assoc, ← Nat.mul_assoc, Nat.mul_comm (4294967296 ^ _) 4294967296]
theorem valD_snoc (l : List Nat) (d : Nat) : valD (l ++ [d]) = valD l + 4294967296 ^ l.length * d := by rw [valD_app]; simp [valD]
theorem valD_lt {l : List Nat} (h : okD l) : valD l < 4294967296 ^ l.length := by
  induction l with
  | nil => simp [valD]
  | cons d l ih =>
    have h1 := h d (by simp)
    have h2 := ih (fun x hx => h x (by simp [hx]))
    rw [valD, List.length_cons, Nat.pow_succ]
    omega
theorem okD_snoc {l : List Nat} {d : Nat} (h : okD l) (hd : d < 4294967296) : okD (l ++ [d]) := fun x hx => by
  rcases List.mem_append.1 hx with hx | hx
  · exact h x hx
  · rw [List.mem_singleton.1 hx]; exact hd
theorem okD_take {l : List Nat} (h : okD l) (k : Nat) : okD (l.take k) := fun x hx => h x (List.mem_of_mem_take hx)
theorem okD_set {l : List Nat} (h : okD l) (k : Nat) {y : Nat} (hy : y < 4294967296) : okD (l.set k y) := fun x hx => by
  rcases List.mem_or_eq_of_mem_set hx with hx | rfl
  · exact h x hx
  · exact hy

/-- a row whose highest digit isn't 0 is the number's own -/
theorem canon {l : List Nat} (h : okD l) (hl : ∀ x, l.getLast? = some x → x ≠ 0) : digs (valD l) = l := by
  induction l with
  | nil => exact digs_zero
  | cons d l ih =>
    have h1 := h d (by simp)
    have h2 : okD l := fun x hx => h x (by simp [hx])
    have h3 := ih h2 (fun x hx => by
      cases l with
      | nil => simp at hx
      | cons e l => exact hl x (by rw [List.getLast?_cons_cons]; exact hx))
    have h4 : valD (d :: l) ≠ 0 := by
      intro h0
      rw [valD] at h0
      have hd : d = 0 := by omega
      have hv : valD l = 0 := by omega
      rw [hv, digs_zero] at h3
      subst h3
      exact hl d rfl hd
    rw [digs_pos h4, valD, Nat.add_mul_mod_self_left, Nat.mod_eq_of_lt h1, Nat.add_mul_div_left _ _ (by decide), Nat.div_eq_of_lt h1, Nat.zero_add, h3]

theorem digit_digs (n i : Nat) : (digs n)[i]?.getD 0 = n / 4294967296 ^ i % 4294967296 := by
  induction i generalizing n with
  | zero =>
    by_cases h : n = 0
    · subst h; simp [digs_zero]
    · rw [digs_pos h]; simp
  | succ i ih =>
    by_cases h : n = 0
    · subst h; simp [digs_zero]
    · rw [digs_pos h, List.getElem?_cons_succ, ih, Nat.div_div_eq_div_mul, Nat.pow_succ, Nat.mul_comm 4294967296]

theorem digs_len (n k : Nat) : (digs n).length ≤ k ↔ n < 4294967296 ^ k := by
  constructor
  · intro h
    have h1 := valD_lt (digs_ok n)
    rw [val_digs] at h1
    exact Nat.lt_of_lt_of_le h1 (Nat.pow_le_pow_right (by decide) h)
  · intro h
    induction k generalizing n with
    | zero =>
      have : n = 0 := by simpa using h
      subst this; simp [digs_zero]
    | succ k ih =>
      by_cases h0 : n = 0
      · subst h0; simp [digs_zero]
      · rw [digs_pos h0, List.length_cons]
        refine Nat.succ_le_succ (ih _ ?_)
        rw [Nat.pow_succ] at h
        exact Nat.div_lt_of_lt_mul (by rw [Nat.mul_comm]; exact h)

theorem pow_split (n k : Nat) : n % 4294967296 ^ (k + 1) = n % 4294967296 ^ k + 4294967296 ^ k * (n / 4294967296 ^ k % 4294967296) := by
  rw [Nat.pow_succ, Nat.mod_mul]

/-- one step of a sum -/
theorem plus_step (a b k v c : Nat) (h : v + c * 4294967296 ^ k = a % 4294967296 ^ k + b % 4294967296 ^ k) (n : Nat) (hn : n = a / 4294967296 ^ k % 4294967296 + b / 4294967296 ^ k % 4294967296 + c) :
    v + 4294967296 ^ k * (n % 4294967296) + n / 4294967296 * 4294967296 ^ (k + 1) = a % 4294967296 ^ (k + 1) + b % 4294967296 ^ (k + 1) := by
  rw [pow_split, pow_split, Nat.pow_succ]
  have e1 := Nat.mod_add_div n 4294967296
  have e2 : 4294967296 ^ k * (n % 4294967296) + n / 4294967296 * (4294967296 ^ k * 4294967296) = 4294967296 ^ k * n := by
    conv => rhs; rw [← e1]
    rw [Nat.mul_add, Nat.mul_left_comm (n / 4294967296), Nat.mul_comm (n / 4294967296) 4294967296]
  rw [Nat.add_assoc, e2, hn, Nat.mul_add, Nat.mul_add, Nat.mul_comm _ c]
  omega
/-- one step of a difference -/
theorem less_step (a b k v c : Nat) (h : v + b % 4294967296 ^ k = a % 4294967296 ^ k + c * 4294967296 ^ k) (hc : c ≤ 1) (n : Nat)
    (hn : n + b / 4294967296 ^ k % 4294967296 + c = 4294967296 + a / 4294967296 ^ k % 4294967296) :
    v + 4294967296 ^ k * (n % 4294967296) + b % 4294967296 ^ (k + 1) = a % 4294967296 ^ (k + 1) + (1 - n / 4294967296) * 4294967296 ^ (k + 1) ∧ 1 - n / 4294967296 ≤ 1 ∧ n / 4294967296 ≤ 1 := by
  have h1 := Nat.mod_lt (a / 4294967296 ^ k) (show 0 < 4294967296 by decide)
  have h2 := Nat.mod_lt (b / 4294967296 ^ k) (show 0 < 4294967296 by decide)
  have h3 : n / 4294967296 ≤ 1 := by omega
  refine ⟨?_, by omega, h3⟩
  rw [pow_split, pow_split, Nat.pow_succ]
  generalize a / 4294967296 ^ k % 4294967296 = x at *
  generalize b / 4294967296 ^ k % 4294967296 = y at *
  generalize 4294967296 ^ k = p at *
  have e1 := Nat.mod_add_div n 4294967296
  have e3 : p * n + p * y + p * c = p * 4294967296 + p * x := by rw [← Nat.mul_add, ← Nat.mul_add, hn, Nat.mul_add]
  have e4 : p * n = p * (n % 4294967296) + p * 4294967296 * (n / 4294967296) := by
    conv => lhs; rw [← e1]
    rw [Nat.mul_add, Nat.mul_assoc]
  rw [Nat.mul_comm c p] at h
  have h5 : n / 4294967296 = 0 ∨ n / 4294967296 = 1 := by omega
  rcases h5 with h5 | h5
  · rw [h5] at e4 ⊢; omega
  · rw [h5] at e4 ⊢; omega

theorem lt_pow_len {a k : Nat} (h : (digs a).length ≤ k) : a % 4294967296 ^ k = a := Nat.mod_eq_of_lt ((digs_len a k).1 h)
end Go.Proofs.YtampdbkafkcfdaaGreatDoor

namespace Go.Proofs.YtampdbkafkcfdaaGreatDoor
set_option linter.unusedVariables false
open Go.RowKit

def enW (d : Nat) : List Value := [.int .u32 (d : Int)]
theorem enW_len (d : Nat) : (enW d).length = 1 := rfl
abbrev SlD (w : World) (a : Option Addr) (cap : Nat) (l : List Nat) : Prop := SlOf w enW 1 a cap l
theorem SlD.at {w : World} {a : Option Addr} {cap : Nat} {l : List Nat} (h : SlD w a cap l) {k : Nat} (hk : k < l.length) : ∃ b o, a = some ⟨b, o, none⟩ ∧ b < w.heap.size ∧ w.cell? ⟨b, o + k, none⟩ = some (.int .u32 (l[k] : Nat)) :=
  SlOf.cell1 h (fun x => .int .u32 (x : Nat)) (fun _ => rfl) hk

/-- v is the number n, at hand in w -/
def NatV (w : World) (v : Value) (n : Nat) : Prop := ∃ a cap, v = .slice a (digs n).length cap ∧ SlD w a cap (digs n)
theorem NatV.keep {w w' : World} {v : Value} {n : Nat} (h : NatV w v n) (hb : Below w.heap.size w w') : NatV w' v n := by
  obtain ⟨a, cap, e, hs⟩ := h
  exact ⟨a, cap, e, hs.keep hb (Nat.le_refl _)⟩

theorem natV_take {w : World} {a : Option Addr} {cap k n : Nat} {l : List Nat} (hs : SlD w a cap l) (hk : k ≤ l.length) (h : l.take k = digs n) : NatV w (.slice a k cap) n := by
  have h1 : (digs n).length = k := by rw [← h, List.length_take, Nat.min_eq_left hk]
  refine ⟨a, cap, by rw [h1], ?_⟩
  rw [← h]
  refine SlOf.pre (ys := l.drop k) ?_ enW_len
  rw [List.take_append_drop]
  exact hs
/-- a slice that lies in no block below B -/
def FreshV (B : Nat) (v : Value) : Prop := ∀ a n c, v = .slice (some a) n c → B ≤ a.block
theorem fresh_of_owns {α : Type} {w : World} {base : Nat} {e : TypeId} {size : Nat} {en : α → List Value} {a : Option Addr} {n c : Nat} {xs : List α} (h : Owns w base e size en (.slice a n c) xs) (k : Nat) : FreshV base (.slice a k c) := fun ad n' c' he => by
  simp only [Value.slice.injEq] at he
  obtain ⟨rfl, _, _⟩ := he
  exact (h.lt ad.block rfl).1
theorem fresh_lit {B g o k c : Nat} (h : B ≤ g) : FreshV B (.slice (some ⟨g, o, none⟩) k c) := fun ad n' c' he => by
  simp only [Value.slice.injEq, Option.some.injEq] at he
  obtain ⟨rfl, _, _⟩ := he
  exact h
/-- what is handed back is the number n, in memory of the call's own -/
def RetNat (w : World) (n : Nat) (e : Ending) (w' : World) : Prop := ∃ v, e = .returned v ∧ NatV w' v n ∧ FreshV w.heap.size v ∧ Below w.heap.size w w'
def RetTrim (w : World) (a : Option Addr) (cap n : Nat) (e : Ending) (w' : World) : Prop := ∃ k, e = .returned (.slice a k cap) ∧ NatV w (.slice a k cap) n ∧ w' = w

/-- the row without noughts behind, as far as the loop has come -/
def TrimAt (l : List Nat) (k : Nat) (x : Value) : Prop := x = .int .i64 (k : Nat) ∧ k ≤ l.length ∧ valD (l.take k) = valD l
theorem trim_step {l : List Nat} {k : Nat} (h : valD (l.take (k + 1)) = valD l) (hk : k < l.length) (h0 : l[k] = 0) : valD (l.take k) = valD l := by
  rw [← h, List.take_succ_eq_append_getElem hk, valD_snoc, h0]
  simp
theorem trim_end {l : List Nat} (hl : okD l) {k : Nat} (h : valD (l.take k) = valD l) (hk : k ≤ l.length) (h0 : ∀ (hlt : 0 < k), l[k - 1]'(by omega) ≠ 0) : l.take k = digs (valD l) := by
  rw [← h]
  refine (canon (okD_take hl k) fun x hx => ?_).symm
  rcases Nat.eq_zero_or_pos k with rfl | hp
  · simp at hx
  · have := h0 hp
    rw [List.getLast?_eq_getElem?, List.length_take, Nat.min_eq_left hk, List.getElem?_take_of_lt (by omega), List.getElem?_eq_getElem (by omega)] at hx
    simp only [Option.some.injEq] at hx
    rw [← hx]; exact this

end Go.Proofs.YtampdbkafkcfdaaGreatDoor

namespace Go.Proofs.YtampdbkafkcfdaaGreatDoor
set_option linter.unusedVariables false
open Go.RowKit

def heldI (a b : Nat) : Int := if a < b then -1 else if a = b then 0 else 1
theorem held_step {a b k : Nat} (h : a / 4294967296 ^ (k + 1) = b / 4294967296 ^ (k + 1)) :
    (a / 4294967296 ^ k % 4294967296 < b / 4294967296 ^ k % 4294967296 → heldI a b = -1) ∧ (b / 4294967296 ^ k % 4294967296 < a / 4294967296 ^ k % 4294967296 → heldI a b = 1) ∧
    (a / 4294967296 ^ k % 4294967296 = b / 4294967296 ^ k % 4294967296 → a / 4294967296 ^ k = b / 4294967296 ^ k) := by
  have ea : a / 4294967296 ^ (k + 1) = a / 4294967296 ^ k / 4294967296 := by rw [Nat.pow_succ, ← Nat.div_div_eq_div_mul]
  have eb : b / 4294967296 ^ (k + 1) = b / 4294967296 ^ k / 4294967296 := by rw [Nat.pow_succ, ← Nat.div_div_eq_div_mul]
  rw [ea, eb] at h
  have key : ∀ x y : Nat, x / 4294967296 ^ k < y / 4294967296 ^ k → x < y := fun x y hxy => by
    rcases Nat.lt_or_ge x y with h1 | h1
    · exact h1
    · exact absurd (Nat.div_le_div_right (c := 4294967296 ^ k) h1) (Nat.not_le_of_lt hxy)
  have k1 := key a b
  have k2 := key b a
  clear ea eb key
  generalize a / 4294967296 ^ k = A at *
  generalize b / 4294967296 ^ k = B at *
  refine ⟨fun hlt => ?_, fun hlt => ?_, fun he => by omega⟩
  · have := k1 (by omega)
    unfold heldI; rw [if_pos this]
  · have := k2 (by omega)
    unfold heldI; rw [if_neg (by omega), if_neg (by omega)]

def HeldAt (a b : Nat) (k : Nat) (x : Value) : Prop := ∃ j : Nat, x = .int .i64 ((j : Int) - 1) ∧ j ≤ k ∧ a / 4294967296 ^ j = b / 4294967296 ^ j
theorem div_pow_len {a k : Nat} (h : (digs a).length ≤ k) : a / 4294967296 ^ k = 0 := Nat.div_eq_of_lt ((digs_len a k).1 h)

theorem word_val (n : Nat) : (digs n)[0]?.getD 0 + 4294967296 * ((digs n)[1]?.getD 0) = n % 18446744073709551616 := by
  rw [digit_digs, digit_digs]
  simp only [Nat.pow_zero, Nat.div_one, Nat.pow_one]
  omega

theorem or_zero64 (x : Nat) (hx : x < 4294967296) : bits .or .u64 0 (x : Int) = (x : Int) := by
  have h := bits_or_u64_nat 0 x (by decide) (by omega)
  rw [Nat.zero_or] at h
  exact h
theorem p32 : (2 : Nat) ^ 32 = 4294967296 := by decide +kernel
theorem or_words (x y : Nat) (hx : x < 4294967296) (hy : y < 4294967296) : bits .or .u64 (x : Int) ((y : Int) * 4294967296) = ((x + 4294967296 * y : Nat) : Int) := by
  have h := bits_or_u64_nat x (y * 4294967296) (by omega) (by omega)
  have e := Nat.shiftLeft_add_eq_or_of_lt (i := 32) (b := x) (by rw [p32]; exact hx) y
  rw [Nat.shiftLeft_eq, Nat.or_comm, p32] at e
  rw [← e, Nat.add_comm, Nat.mul_comm y] at h
  rw [← h, Int.natCast_mul, Int.mul_comm]
  rfl

end Go.Proofs.YtampdbkafkcfdaaGreatDoor

namespace Go.Proofs.YtampdbkafkcfdaaGreatDoor
set_option linter.unusedVariables false
open Go.RowKit

def BoolV (b : Bool) (x : Value) : Prop := x = .bool b
/-- the sum, as far as the loop has come -/
def PlusAt (m n K : Nat) (w wr : World) (v c i : Value) : Prop := ∃ (k cy : Nat) (xs : List Nat), i = .int .i64 (k : Nat) ∧ k ≤ K + 1 ∧ c = .int .u64 (cy : Nat) ∧ cy ≤ 1 ∧
  Owns wr w.heap.size 43 1 enW v xs ∧ xs.length = k ∧ okD xs ∧ valD xs + cy * 4294967296 ^ k = m % 4294967296 ^ k + n % 4294967296 ^ k ∧ Below w.heap.size w wr

theorem plus_end {m n K v c : Nat} (hm : m < 4294967296 ^ K) (hn : n < 4294967296 ^ K) (h : v + c * 4294967296 ^ (K + 1) = m % 4294967296 ^ (K + 1) + n % 4294967296 ^ (K + 1)) (hc : c ≤ 1) : v = m + n := by
  have hp : 4294967296 ^ (K + 1) = 4294967296 ^ K * 4294967296 := Nat.pow_succ ..
  rw [Nat.mod_eq_of_lt (by omega), Nat.mod_eq_of_lt (by omega)] at h
  have : c = 0 ∨ c = 1 := by omega
  rcases this with rfl | rfl
  · simpa using h
  · omega

end Go.Proofs.YtampdbkafkcfdaaGreatDoor

namespace Go.Proofs.YtampdbkafkcfdaaGreatDoor
set_option linter.unusedVariables false
open Go.RowKit

def LessAt (m n K : Nat) (w wr : World) (v c i : Value) : Prop := ∃ (k cy : Nat) (xs : List Nat), i = .int .i64 (k : Nat) ∧ k ≤ K ∧ c = .int .u64 (cy : Nat) ∧ cy ≤ 1 ∧
  Owns wr w.heap.size 43 1 enW v xs ∧ xs.length = k ∧ okD xs ∧ valD xs + n % 4294967296 ^ k = m % 4294967296 ^ k + cy * 4294967296 ^ k ∧ Below w.heap.size w wr

theorem less_end {m n K v c : Nat} (hm : m < 4294967296 ^ K) (hnm : n ≤ m) (hv : v < 4294967296 ^ K) (h : v + n % 4294967296 ^ K = m % 4294967296 ^ K + c * 4294967296 ^ K) (hc : c ≤ 1) : v = m - n := by
  rw [Nat.mod_eq_of_lt (by omega), Nat.mod_eq_of_lt hm] at h
  have : c = 0 ∨ c = 1 := by omega
  rcases this with rfl | rfl <;> omega

end Go.Proofs.YtampdbkafkcfdaaGreatDoor

namespace Go.Proofs.YtampdbkafkcfdaaGreatDoor
set_option linter.unusedVariables false

theorem p32' : (2 : Nat) ^ 32 = 4294967296 := by decide +kernel
theorem powB (j : Nat) : 4294967296 ^ j = 2 ^ (32 * j) := by rw [Nat.pow_mul, p32']

theorem digit_val {l : List Nat} (hl : okD l) (j : Nat) (hj : j < l.length) : l[j] = valD l / 4294967296 ^ j % 4294967296 := by
  induction l generalizing j with
  | nil => simp at hj
  | cons d l ih =>
    have h1 := hl d (by simp)
    cases j with
    | zero => rw [List.getElem_cons_zero, valD, Nat.pow_zero, Nat.div_one]; omega
    | succ j =>
      rw [List.getElem_cons_succ, ih (fun x hx => hl x (by simp [hx])) j (by simpa using hj), valD, Nat.pow_succ, Nat.mul_comm (4294967296 ^ j), ← Nat.div_div_eq_div_mul]
      congr 2
      omega

theorem valD_set (l : List Nat) (j : Nat) (hj : j < l.length) (y : Nat) : valD (l.set j y) + 4294967296 ^ j * l[j] = valD l + 4294967296 ^ j * y := by
  induction l generalizing j with
  | nil => simp at hj
  | cons d l ih =>
    cases j with
    | zero => simp [valD]; omega
    | succ j =>
      have := ih j (by simpa using hj)
      rw [List.set_cons_succ, valD, valD, List.getElem_cons_succ, Nat.pow_succ, Nat.mul_comm (4294967296 ^ j), Nat.mul_assoc, Nat.mul_assoc]
      omega

theorem bit_val (m i : Nat) : m / 4294967296 ^ (i / 32) % 4294967296 / 2 ^ (i % 32) % 2 = m / 2 ^ i % 2 := by
  have hs : i % 32 < 32 := Nat.mod_lt _ (by decide)
  have e : i = 32 * (i / 32) + i % 32 := (Nat.div_add_mod i 32).symm
  have e1 : m / 2 ^ i = m / 4294967296 ^ (i / 32) / 2 ^ (i % 32) := by
    conv => lhs; rw [e]
    rw [powB, Nat.pow_add, Nat.div_div_eq_div_mul]
  rw [e1]
  generalize m / 4294967296 ^ (i / 32) = x
  generalize i % 32 = s at *
  have e2 : (4294967296 : Nat) = 2 ^ s * 2 ^ (32 - s) := by rw [← Nat.pow_add, show s + (32 - s) = 32 by omega, p32']
  rw [e2, Nat.mod_mul_right_div_self]
  have e3 : (2 : Nat) ^ (32 - s) = 2 * 2 ^ (31 - s) := by rw [show 32 - s = (31 - s) + 1 by omega, Nat.pow_succ, Nat.mul_comm]
  rw [e3, Nat.mod_mul_right_mod]

/-- a bit that isn't there yet -/
theorem or_bit {x s : Nat} (h : 2 ^ (s + 1) ∣ x) : x ||| 2 ^ s = x + 2 ^ s := by
  obtain ⟨c, rfl⟩ := h
  have := Nat.shiftLeft_add_eq_or_of_lt (i := s + 1) (b := 2 ^ s) (Nat.pow_lt_pow_right (by decide) (by omega)) c
  rw [Nat.shiftLeft_eq, Nat.mul_comm] at this
  exact this.symm

theorem digit_low {v i Q : Nat} (hv : v = 2 ^ (i + 1) * Q) : 2 ^ (i % 32 + 1) ∣ v / 4294967296 ^ (i / 32) % 4294967296 := by
  have hs : i % 32 < 32 := Nat.mod_lt _ (by decide)
  have e : i + 1 = 32 * (i / 32) + (i % 32 + 1) := by have := Nat.div_add_mod i 32; omega
  have e3 : 2 ^ (32 * (i / 32) + (i % 32 + 1)) = 4294967296 ^ (i / 32) * 2 ^ (i % 32 + 1) := by rw [Nat.pow_add 2 (32 * (i / 32)), ← powB]
  rw [hv, e, e3, Nat.mul_assoc, Nat.mul_div_cancel_left _ (Nat.pow_pos (by decide))]
  generalize i % 32 = s at *
  have e2 : (4294967296 : Nat) = 2 ^ (s + 1) * 2 ^ (31 - s) := by rw [← Nat.pow_add, show s + 1 + (31 - s) = 32 by omega, p32']
  rw [e2, Nat.mul_mod_mul_left]
  exact ⟨_, rfl⟩

/-- what the division has when i bits are left -/
structure DivS (m n i v r : Nat) : Prop where
  lt : r < n
  ex : ∃ Q, v = 2 ^ i * Q ∧ Q * n + r = m / 2 ^ i
theorem div_bit {m i : Nat} : m / 2 ^ i = 2 * (m / 2 ^ (i + 1)) + m / 2 ^ i % 2 := by
  rw [Nat.pow_succ, ← Nat.div_div_eq_div_mul]
  omega
theorem divS_no {m n i v r : Nat} (h : DivS m n (i + 1) v r) (hlt : r + r + m / 2 ^ i % 2 < n) : DivS m n i v (r + r + m / 2 ^ i % 2) := by
  obtain ⟨h1, Q, h2, h3⟩ := h
  refine ⟨hlt, 2 * Q, by rw [h2, Nat.pow_succ, Nat.mul_assoc], ?_⟩
  conv => rhs; rw [div_bit, ← h3]
  rw [Nat.mul_assoc]
  omega
theorem divS_yes {m n i v r : Nat} (h : DivS m n (i + 1) v r) (hge : n ≤ r + r + m / 2 ^ i % 2) : DivS m n i (v + 2 ^ i) (r + r + m / 2 ^ i % 2 - n) := by
  obtain ⟨h1, Q, h2, h3⟩ := h
  have hb : m / 2 ^ i % 2 < 2 := Nat.mod_lt _ (by decide)
  refine ⟨by omega, 2 * Q + 1, by rw [h2, Nat.pow_succ, Nat.mul_add, Nat.mul_assoc, Nat.mul_one], ?_⟩
  conv => rhs; rw [div_bit, ← h3]
  rw [Nat.add_mul, Nat.mul_assoc]
  omega
theorem divS_end {m n v r : Nat} (h : DivS m n 0 v r) : v = m / n ∧ r = m % n := by
  obtain ⟨h1, Q, h2, h3⟩ := h
  rw [Nat.pow_zero, Nat.div_one] at h3
  rw [Nat.pow_zero, Nat.one_mul] at h2
  subst h2
  rw [← h3, Nat.mul_comm, Nat.mul_add_div (by omega), Nat.div_eq_of_lt h1, Nat.mul_add_mod, Nat.mod_eq_of_lt h1]
  exact ⟨rfl, rfl⟩
theorem divS_start (m n K : Nat) (hm : m < 4294967296 ^ K) (hn : 0 < n) : DivS m n (32 * K) 0 0 :=
  ⟨hn, 0, by simp, by rw [← powB, Nat.div_eq_of_lt hm]; simp⟩
theorem valD_zeros (k : Nat) : valD (List.replicate k 0) = 0 := by
  induction k with
  | zero => rfl
  | succ k ih => rw [List.replicate_succ, valD, ih]

/-- a bit of the quotient is laid -/
theorem bit_put {xs : List Nat} (hok : okD xs) {m n i r q s : Nat} (h : DivS m n (i + 1) (valD xs) r) (hq : q = i / 32) (hs : s = i % 32) (hql : q < xs.length) :
    ∃ x, xs[q] = x ∧ x < 4294967296 ∧ x ||| 2 ^ s = x + 2 ^ s ∧ 2 ^ s < 4294967296 ∧ x + 2 ^ s < 4294967296 ∧ valD (xs.set q (x + 2 ^ s)) = valD xs + 2 ^ i := by
  have hs32 : s < 32 := by omega
  have hxd := digit_val hok q hql
  have hxl := hok xs[q] (List.getElem_mem _)
  have hset := fun y => valD_set xs q hql y
  have hlow : 2 ^ (s + 1) ∣ xs[q] := by
    obtain ⟨Q, hQ1, _⟩ := h.ex
    rw [hxd, hq, hs]
    exact digit_low hQ1
  clear hxd
  generalize xs[q] = x at *
  refine ⟨x, rfl, hxl, or_bit hlow, ?_, ?_, ?_⟩
  · rw [← p32']; exact Nat.pow_lt_pow_right (by decide) hs32
  · obtain ⟨c, hc⟩ := hlow
    have e2 : (4294967296 : Nat) = 2 ^ (s + 1) * 2 ^ (31 - s) := by rw [← Nat.pow_add, show s + 1 + (31 - s) = 32 by omega, p32']
    have hc2 : c < 2 ^ (31 - s) := by
      rw [hc, e2] at hxl
      exact Nat.lt_of_mul_lt_mul_left hxl
    have h3 := Nat.mul_le_mul_left (2 ^ (s + 1)) (show c + 1 ≤ 2 ^ (31 - s) from hc2)
    rw [← e2, Nat.mul_add, ← hc, Nat.mul_one, Nat.pow_succ] at h3
    have hp : 0 < 2 ^ s := Nat.pow_pos (by decide)
    omega
  · have e : 4294967296 ^ q * 2 ^ s = 2 ^ i := by rw [powB, ← Nat.pow_add, hq, hs, Nat.div_add_mod]
    have h4 := hset (x + 2 ^ s)
    rw [Nat.mul_add, e] at h4
    omega
end Go.Proofs.YtampdbkafkcfdaaGreatDoor

namespace Go.Proofs.YtampdbkafkcfdaaGreatDoor
set_option linter.unusedVariables false
open Go.RowKit

/-- two slices in blocks apart -/
def ApartV (v u : Value) : Prop := ∀ ad n c, v = .slice (some ad) n c → ∀ bd n' c', u = .slice (some bd) n' c' → ad.block ≠ bd.block
def BelowV (B : Nat) (u : Value) : Prop := ∀ bd n c, u = .slice (some bd) n c → bd.block < B
theorem belowV_of_owns {α : Type} {w : World} {base : Nat} {e : TypeId} {size : Nat} {en : α → List Value} {v : Value} {xs : List α} (h : Owns w base e size en v xs) : BelowV w.heap.size v := fun bd n c he => by
  subst he
  exact (h.lt bd.block rfl).2
theorem apart_of {B B' : Nat} {v u : Value} (h : FreshV B v) (h2 : BelowV B' u) (hB : B' ≤ B) : ApartV v u := fun ad n c e1 bd n' c' e2 => by
  have := h ad n c e1
  have := h2 bd n' c' e2
  omega
theorem natV_set {w : World} {v : Value} {n : Nat} (h : NatV w v n) {g q len cap : Nat} {u : Value} (ha : ApartV v (.slice (some ⟨g, 0, none⟩) len cap)) : NatV (w.setCell ⟨g, q, none⟩ u) v n := by
  obtain ⟨a, c, rfl, hs⟩ := h
  refine ⟨a, c, rfl, hs.of_block fun b o e => ?_⟩
  subst e
  exact Below.heap_setCell w _ u b (ha _ _ _ rfl ⟨g, 0, none⟩ _ _ rfl)
/-- quotient and rest, as the loop has them -/
def DivAt (m n K : Nat) (w wr : World) (vq vr i : Value) : Prop := ∃ (j r : Nat) (xs : List Nat), i = .int .i64 ((j : Int) - 1) ∧ j ≤ 32 * K ∧ Owns wr w.heap.size 43 1 enW vq xs ∧ xs.length = K ∧ okD xs ∧
  DivS m n j (valD xs) r ∧ NatV wr vr r ∧ ApartV vr vq ∧ Below w.heap.size w wr
def RetTwo (w : World) (q r : Nat) (e : Ending) (w' : World) : Prop := ∃ v u, e = .returned (.tuple #[v, u]) ∧ NatV w' v q ∧ NatV w' u r ∧ Below w.heap.size w w'
theorem natV_nil (w : World) : NatV w (.slice none 0 0) 0 := ⟨none, 0, by rw [digs_zero]; rfl, by rw [digs_zero]; exact SlOf.nil _ _ _⟩

theorem wrap32N (a : Nat) (h : a < 4294967296) : IntKind.u32.wrap (a : Int) = (a : Int) := by unfold IntKind.wrap; simp [IntKind.bits, IntKind.signed]; omega
theorem and_one_nat (x : Nat) (h : x < 4294967296) : bits .and .u64 (x : Int) 1 = ((x % 2 : Nat) : Int) := by
  rw [and_one_u64 _ (by omega) (by omega)]; omega

end Go.Proofs.YtampdbkafkcfdaaGreatDoor

namespace Go.Proofs.YtampdbkafkcfdaaGreatDoor
set_option linter.unusedVariables false

/-- the row that the product is laid in: i digits of the one number, k of the next one's are worked in -/
structure MulS (m n L i k : Nat) (xs : List Nat) (c : Nat) : Prop where
  len : xs.length = L
  ok : okD xs
  car : c < 4294967296
  val : valD xs + c * 4294967296 ^ (i + k) = (m % 4294967296 ^ i) * n + 4294967296 ^ i * (m / 4294967296 ^ i % 4294967296) * (n % 4294967296 ^ k)
  high : ∀ j, (h : j < xs.length) → i + (digs n).length ≤ j → xs[j] = 0
/-- between two digits of the one number -/
structure MulR (m n L i : Nat) (xs : List Nat) : Prop where
  len : xs.length = L
  ok : okD xs
  val : valD xs = (m % 4294967296 ^ i) * n
  high : ∀ j, (h : j < xs.length) → i + (digs n).length ≤ j → xs[j] = 0

theorem mulR_start (m n L : Nat) : MulR m n L 0 (List.replicate L 0) :=
  ⟨List.length_replicate, fun x hx => by rw [(List.mem_replicate.1 hx).2]; decide, by rw [valD_zeros]; simp [Nat.mod_one], fun j h _ => by simp⟩
theorem mulR_in {m n L i : Nat} {xs : List Nat} (h : MulR m n L i xs) : MulS m n L i 0 xs 0 :=
  ⟨h.len, h.ok, by decide, by rw [h.val]; simp [Nat.mod_one], h.high⟩
theorem mulR_end {m n L i : Nat} {xs : List Nat} (h : MulR m n L i xs) (hi : (digs m).length ≤ i) : valD xs = m * n := by
  rw [h.val, lt_pow_len hi]

theorem mul_fits {x y l c : Nat} (hx : x < 4294967296) (hy : y < 4294967296) (hl : l < 4294967296) (hc : c < 4294967296) : x * y + l + c < 18446744073709551616 := by
  have := Nat.mul_le_mul (show x ≤ 4294967295 by omega) (show y ≤ 4294967295 by omega)
  omega
/-- a digit more -/
theorem mulS_step {m n L i k : Nat} {xs : List Nat} {c : Nat} (h : MulS m n L i k xs c) (hL : i + k < L) (hk : k < (digs n).length) (N : Nat)
    (hN : N = m / 4294967296 ^ i % 4294967296 * (n / 4294967296 ^ k % 4294967296) + xs[i + k]'(by rw [h.len]; exact hL) + c) :
    MulS m n L i (k + 1) (xs.set (i + k) (N % 4294967296)) (N / 4294967296) ∧ N < 18446744073709551616 := by
  have hl : i + k < xs.length := by rw [h.len]; exact hL
  have hx := Nat.mod_lt (m / 4294967296 ^ i) (show 0 < 4294967296 by decide)
  have hy := Nat.mod_lt (n / 4294967296 ^ k) (show 0 < 4294967296 by decide)
  have hlt := h.ok xs[i + k] (List.getElem_mem _)
  have hset := valD_set xs (i + k) hl (N % 4294967296)
  have hfit := mul_fits hx hy hlt h.car
  rw [← hN] at hfit
  refine ⟨⟨by rw [List.length_set]; exact h.len, okD_set h.ok _ (Nat.mod_lt _ (by decide)), by omega, ?_, ?_⟩, hfit⟩
  · rw [pow_split n k, ← Nat.add_assoc, Nat.pow_succ 4294967296 (i + k), Nat.mul_add, ← Nat.add_assoc, ← h.val]
    have hp : 4294967296 ^ i * (m / 4294967296 ^ i % 4294967296) * (4294967296 ^ k * (n / 4294967296 ^ k % 4294967296)) = 4294967296 ^ (i + k) * (m / 4294967296 ^ i % 4294967296 * (n / 4294967296 ^ k % 4294967296)) := by
      rw [Nat.pow_add, Nat.mul_mul_mul_comm]
    rw [hp]
    generalize 4294967296 ^ (i + k) = p at *
    generalize m / 4294967296 ^ i % 4294967296 * (n / 4294967296 ^ k % 4294967296) = xy at *
    generalize xs[i + k] = l at *
    have e1 := Nat.mod_add_div N 4294967296
    have e2 : p * (N % 4294967296) + N / 4294967296 * (p * 4294967296) = p * N := by
      conv => rhs; rw [← e1]
      rw [Nat.mul_add, Nat.mul_left_comm (N / 4294967296), Nat.mul_comm (N / 4294967296) 4294967296]
    have e3 : p * N = p * xy + p * l + c * p := by rw [hN, Nat.mul_add, Nat.mul_add, Nat.mul_comm c p]
    omega
  · intro j hj hij
    rw [List.length_set] at hj
    rw [List.getElem_set_ne (by omega)]
    exact h.high j hj hij
/-- a row is through -/
theorem mulS_out {m n L i : Nat} {xs : List Nat} {c : Nat} (h : MulS m n L i (digs n).length xs c) (hL : i + (digs n).length < L) :
    MulR m n L (i + 1) (xs.set (i + (digs n).length) c) := by
  have hl : i + (digs n).length < xs.length := by rw [h.len]; exact hL
  have hset := valD_set xs (i + (digs n).length) hl c
  rw [h.high _ hl (Nat.le_refl _), Nat.mul_zero, Nat.add_zero, Nat.mul_comm _ c, h.val, lt_pow_len (Nat.le_refl _)] at hset
  refine ⟨by rw [List.length_set]; exact h.len, okD_set h.ok _ h.car, ?_, ?_⟩
  · rw [hset, pow_split m i, Nat.add_mul]
  · intro j hj hij
    rw [List.length_set] at hj
    rw [List.getElem_set_ne (by omega)]
    exact h.high j hj (by omega)
theorem mulS_out' {m n L i J : Nat} {xs : List Nat} {c : Nat} (hJ : (digs n).length = J) (h : MulS m n L i J xs c) (hL : i + J < L) : MulR m n L (i + 1) (xs.set (i + J) c) := by
  subst hJ; exact mulS_out h hL
end Go.Proofs.YtampdbkafkcfdaaGreatDoor

namespace Go.Proofs.YtampdbkafkcfdaaGreatDoor
set_option linter.unusedVariables false
open Go.RowKit

theorem u64N (a : Nat) (h : a < 18446744073709551616) : IntKind.u64.wrap (a : Int) = (a : Int) := by unfold IntKind.wrap; simp [IntKind.bits, IntKind.signed]; omega
theorem u32mod (a : Nat) : IntKind.u32.wrap (a : Int) = ((a % 4294967296 : Nat) : Int) := by unfold IntKind.wrap; simp [IntKind.bits, IntKind.signed]

end Go.Proofs.YtampdbkafkcfdaaGreatDoor
