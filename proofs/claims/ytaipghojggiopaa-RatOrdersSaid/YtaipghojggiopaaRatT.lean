/-
  What sums and products give back. (No walk here.)
-/
import Derived.Test.YtaipghojggiopaaRatS
import Derived.Test.YtaipghojggiopaaIsErr
namespace Go.Proofs.Ytaipghojggiopaa
set_option linter.unusedVariables false
open Go.RowKit

theorem fracI_comm {X Y : Int} {D E : Nat} (h1 : X = Y) (h2 : D = E) : fracI X D = fracI Y E := by rw [h1, h2]
theorem rightP_in {n d : Int} (h : RightP n d) : In64 n ∧ In64 d := ⟨⟨h.2.2.1, h.2.2.2.1⟩, ⟨by have := h.1; omega, h.2.1⟩⟩
theorem rightB_of {n d : Int} (h : RightP n d) : rightB n d = true := (rightB_iff n d (rightP_in h).1 (rightP_in h).2).2 h
theorem natAbs_of {d : Int} (h : 1 ≤ d) : (d.natAbs : Int) = d := by omega

/-- a sum that fits is taken back by a difference; it doesn't ask which comes first -/
theorem add_cases (na da nb db : Int) (ha : RightP na da) (hb : RightP nb db) :
    (∃ n d, RightP n d ∧ sumV na da nb db false = .tuple #[.agg #[.int .i64 n, .int .i64 d], .nilIface] ∧ sumV nb db na da false = .tuple #[.agg #[.int .i64 n, .int .i64 d], .nilIface] ∧
      sumV n d nb db true = .tuple #[.agg #[.int .i64 na, .int .i64 da], .nilIface]) ∨
    (sumV na da nb db false = .tuple #[.agg #[.int .i64 0, .int .i64 0], errV 9] ∧ sumV nb db na da false = .tuple #[.agg #[.int .i64 0, .int .i64 0], errV 9]) := by
  have e1 : sumV na da nb db false = ratV (fracI (na * db + nb * da) (da.natAbs * db.natAbs)) := by
    unfold sumV; rw [rightB_of ha, rightB_of hb]; rfl
  have e2 : sumV nb db na da false = ratV (fracI (na * db + nb * da) (da.natAbs * db.natAbs)) := by
    unfold sumV; rw [rightB_of ha, rightB_of hb]
    exact congrArg ratV (fracI_comm (Int.add_comm _ _) (Nat.mul_comm _ _))
  rw [e1, e2]
  have hp : 0 < da.natAbs * db.natAbs := Nat.mul_pos (by have := ha.1; omega) (by have := hb.1; omega)
  cases hF : fracI (na * db + nb * da) (da.natAbs * db.natAbs) with
  | none => exact .inr ⟨rfl, rfl⟩
  | some x =>
    obtain ⟨n, d⟩ := x
    obtain ⟨hr, he⟩ := (fracI_iff _ _ hp n d).1 hF
    refine .inl ⟨n, d, hr, rfl, rfl, ?_⟩
    unfold sumV
    rw [rightB_of hr, rightB_of hb]
    have hp2 : 0 < d.natAbs * db.natAbs := Nat.mul_pos (by have := hr.1; omega) (by have := hb.1; omega)
    have : fracI (n * db + -nb * d) (d.natAbs * db.natAbs) = some (na, da) := by
      refine (fracI_iff _ _ hp2 na da).2 ⟨ha, ?_⟩
      rw [Int.natCast_mul, natAbs_of hr.1, natAbs_of hb.1]
      rw [Int.natCast_mul, natAbs_of ha.1, natAbs_of hb.1] at he
      have e3 : (n * db + -nb * d) * da = n * (da * db) - nb * da * d := by
        rw [Int.add_mul, Int.neg_mul, Int.neg_mul, ← Int.sub_eq_add_neg, Int.mul_assoc n, Int.mul_comm db, Int.mul_assoc nb d, Int.mul_comm d da, ← Int.mul_assoc nb]
      rw [e3, he, Int.add_mul, Int.mul_assoc na db, Int.mul_comm db d]
      omega
    simp only [Bool.and_self, if_true]
    rw [this]
    rfl

theorem mul_cases (na da nb db : Int) (ha : RightP na da) (hb : RightP nb db) :
    (∃ n d, RightP n d ∧ mulV na da nb db = .tuple #[.agg #[.int .i64 n, .int .i64 d], .nilIface] ∧ mulV nb db na da = .tuple #[.agg #[.int .i64 n, .int .i64 d], .nilIface] ∧
      (nb ≠ 0 → divV n d nb db = .tuple #[.agg #[.int .i64 na, .int .i64 da], .nilIface])) ∨
    (mulV na da nb db = .tuple #[.agg #[.int .i64 0, .int .i64 0], errV 9] ∧ mulV nb db na da = .tuple #[.agg #[.int .i64 0, .int .i64 0], errV 9]) := by
  have e1 : mulV na da nb db = ratV (fracI (na * nb) (da.natAbs * db.natAbs)) := by
    unfold mulV; rw [rightB_of ha, rightB_of hb]; rfl
  have e2 : mulV nb db na da = ratV (fracI (na * nb) (da.natAbs * db.natAbs)) := by
    unfold mulV; rw [rightB_of ha, rightB_of hb]
    exact congrArg ratV (fracI_comm (Int.mul_comm _ _) (Nat.mul_comm _ _))
  rw [e1, e2]
  have hp : 0 < da.natAbs * db.natAbs := Nat.mul_pos (by have := ha.1; omega) (by have := hb.1; omega)
  cases hF : fracI (na * nb) (da.natAbs * db.natAbs) with
  | none => exact .inr ⟨rfl, rfl⟩
  | some x =>
    obtain ⟨n, d⟩ := x
    obtain ⟨hr, he⟩ := (fracI_iff _ _ hp n d).1 hF
    refine .inl ⟨n, d, hr, rfl, rfl, fun h0 => ?_⟩
    unfold divV
    rw [rightB_of hr, rightB_of hb]
    have hp2 : 0 < d.natAbs * nb.natAbs := Nat.mul_pos (by have := hr.1; omega) (by omega)
    have : fracI (if nb < 0 then -(n * db) else n * db) (d.natAbs * nb.natAbs) = some (na, da) := by
      refine (fracI_iff _ _ hp2 na da).2 ⟨ha, ?_⟩
      rw [Int.natCast_mul, natAbs_of ha.1, natAbs_of hb.1] at he
      rw [Int.natCast_mul, natAbs_of hr.1]
      have e4 : n * db * da = na * nb * d := by rw [Int.mul_assoc, Int.mul_comm db, he]
      by_cases hn : nb < 0
      · rw [if_pos hn, Int.neg_mul, e4, show (nb.natAbs : Int) = -nb by omega, Int.mul_neg, Int.mul_neg, Int.mul_comm d nb, ← Int.mul_assoc]
      · rw [if_neg hn, e4, show (nb.natAbs : Int) = nb by omega, Int.mul_comm d nb, ← Int.mul_assoc]
    simp only [Bool.and_self, if_true]
    rw [if_neg h0, this]
    rfl
end Go.Proofs.Ytaipghojggiopaa
