/-
  lex.number: contract.
-/
import Derived.Test.YtajnmbhcaogfoaaGreatDoorLexA
import Derived.Test.YtajnmbhcaogfoaaGreatDoorChrB
import Derived.Deep.Cut
import Derived.Deep.DeepCutAuto
namespace Go.Proofs.YtajnmbhcaogfoaaGreatDoor
set_option linter.unusedVariables false
open Go.RowKit

def stopN (c : UInt8) : Bool := ltU c.toNat || c == 46
def num3T (s : List UInt8) (n : Nat) : Nat := match s[n]? with
  | some c => if stopN c = true then 0 else n
  | none => n
def num2T (s : List UInt8) (n : Nat) : Nat := match s[n]? with
  | some c => if isEe c = true then (if tw (s.drop (n + 1 + sgnN (s.drop (n + 1)))) = [] then 0 else num3T s (n + 1 + sgnN (s.drop (n + 1)) + (tw (s.drop (n + 1 + sgnN (s.drop (n + 1))))).length)) else num3T s n
  | none => num3T s n
def num1T (s : List UInt8) (n : Nat) : Nat := match s[n]? with
  | some c => if c = 46 then (if tw (s.drop (n + 1)) = [] then 0 else num2T s (n + (1 + (tw (s.drop (n + 1))).length))) else num2T s n
  | none => num2T s n
/-- how many bytes the number has with which a text begins; 0: it isn't as it must be -/
def numN (s : List UInt8) : Nat := num1T s (sgnN s + (tw (s.drop (sgnN s))).length)
theorem sgnN_le (s : List UInt8) : sgnN s ≤ 1 ∧ sgnN s ≤ s.length := by
  cases s with
  | nil => exact ⟨Nat.zero_le _, Nat.le_refl _⟩
  | cons c t => show (if _ then 1 else 0) ≤ 1 ∧ (if _ then 1 else 0) ≤ (c :: t).length; split <;> simp
theorem tw_lenA (l : List UInt8) : (tw l).length ≤ l.length := by
  unfold tw; exact (List.takeWhile_sublist _).length_le
theorem at_some {s : List UInt8} {n : Nat} (h : n < s.length) : s[n]? = some s[n] := List.getElem?_eq_getElem h
theorem at_none {s : List UInt8} {n : Nat} (h : ¬ n < s.length) : s[n]? = none := List.getElem?_eq_none (by omega)
theorem num3_end {s : List UInt8} {n : Nat} (h : ¬ n < s.length) : num3T s n = n := by unfold num3T; rw [at_none h]
theorem num2_end {s : List UInt8} {n : Nat} (h : ¬ n < s.length) : num2T s n = n := by unfold num2T; rw [at_none h]; exact num3_end h
theorem num1_end {s : List UInt8} {n : Nat} (h : ¬ n < s.length) : num1T s n = n := by unfold num1T; rw [at_none h]; exact num2_end h
theorem byte_ne {c : UInt8} {m : Nat} (hm : m < 256) (h : c ≠ UInt8.ofNat m) : ((c.toNat : Int) == (m : Int)) = false := by
  rw [beq_eq_false_iff_ne]; intro e; exact h (UInt8.toNat.inj (by rw [UInt8.toNat_ofNat_of_lt' (by simpa using hm)]; omega))

end Go.Proofs.YtajnmbhcaogfoaaGreatDoor
