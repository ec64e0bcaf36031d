/-
  lex.token: contract.
-/
import Derived.Test.YtampdbkafkcfdaaGreatDoorLexD
namespace Go.Proofs.YtampdbkafkcfdaaGreatDoor
set_option linter.unusedVariables false
open Go.RowKit Go.Shelf

def ldC (c : UInt8) : Bool := ltU c.toNat || dgU c.toNat
def nameN (s : List UInt8) : Nat := (s.takeWhile ldC).length
def ordB (s : List UInt8) : Bool := s.take 3 == [64, 48, 43] || s.take 3 == [64, 48, 45] || s.take 3 == [64, 49, 43] || s.take 3 == [64, 49, 45]
def sgC (R : Nat) (s : List UInt8) : Bool := (R == 43 || R == 45) && (match s[1]? with | some c => dgU c.toNat | none => false)
/-- the token with which a text begins, and how many bytes it has; the error -/
def tokT (s : List UInt8) : Value :=
  if ltU (decL s).1 = true then tokG 1 (s.take (nameN s)) (nameN s)
  else if (dgU (decL s).1 || sgC (decL s).1 s) = true then (if numN s = 0 then tokE 8 else tokG 2 (s.take (numN s)) (numN s))
  else if (decL s).1 = 34 then textT s
  else if sgU (decL s).1 = true then tokG 4 (s.take 1) 1
  else if ordB s = true then tokG 4 (s.take 3) 3 else tokE 7
theorem nameN_le (s : List UInt8) : nameN s ≤ s.length := (List.takeWhile_sublist _).length_le
theorem numN_le (s : List UInt8) : numN s ≤ s.length := by
  have h3 : ∀ n, n ≤ s.length → num3T s n ≤ s.length := by
    intro n hn
    unfold num3T
    split
    · split <;> omega
    · omega
  have h2 : ∀ n, n ≤ s.length → num2T s n ≤ s.length := by
    intro n hn
    unfold num2T
    split
    · split
      · split
        · omega
        · apply h3
          have := tw_lenA (s.drop (n + 1 + sgnN (s.drop (n + 1))))
          obtain ⟨a, b⟩ := sgnN_le (s.drop (n + 1))
          rw [List.length_drop] at this b
          rename_i c hc _ _
          have : n < s.length := by
            rcases Nat.lt_or_ge n s.length with h | h
            · exact h
            · rw [at_none (by omega)] at hc; cases hc
          omega
      · exact h3 n hn
    · exact h3 n hn
  unfold numN num1T
  have a := sgnN_le s
  have b := tw_lenA (s.drop (sgnN s))
  rw [List.length_drop] at b
  split
  · split
    · split
      · omega
      · apply h2
        have := tw_lenA (s.drop (sgnN s + (tw (s.drop (sgnN s))).length + 1))
        rw [List.length_drop] at this
        rename_i c hc _ _
        have : sgnN s + (tw (s.drop (sgnN s))).length < s.length := by
          rcases Nat.lt_or_ge (sgnN s + (tw (s.drop (sgnN s))).length) s.length with h | h
          · exact h
          · rw [at_none (by omega)] at hc; cases hc
        omega
    · apply h2; omega
  · apply h2; omega
theorem dec_valid (l : List UInt8) : (decL l).1 < 55296 ∨ 57344 ≤ (decL l).1 := by
  obtain ⟨c, k, e, h⟩ := decN_cases l.length (l.getD 0 0).toNat (l.getD 1 0).toNat (l.getD 2 0).toNat (l.getD 3 0).toNat
  have e2 : decL l = (c, k) := e
  rw [e2]
  rcases h with h | h | h | h | h <;> simp only <;> omega
theorem strDec (a b : List UInt8) : decide ((⟨a.toArray⟩ : ByteArray) = ⟨b.toArray⟩) = (a == b) := by
  rw [Bool.eq_iff_iff, decide_eq_true_eq, beq_iff_eq]
  constructor
  · intro h; have := congrArg (fun x : ByteArray => x.data.toList) h; simpa using this
  · rintro rfl; rfl

end Go.Proofs.YtampdbkafkcfdaaGreatDoor
