/-
  What holding fractions against each other comes to. (No walk here.)
-/
import Derived.Test.YtaipghojggiopaaRatT
namespace Go.Proofs.Ytaipghojggiopaa
set_option linter.unusedVariables false
open Go.RowKit

theorem cmpI_vals (na da nb db : Int) : cmpI na da nb db = -1 ∨ cmpI na da nb db = 0 ∨ cmpI na da nb db = 1 := by
  unfold cmpI; split
  · exact .inl rfl
  · split
    · exact .inr (.inl rfl)
    · exact .inr (.inr rfl)
theorem cmpI_lt (na da nb db : Int) : cmpI na da nb db < 0 ↔ na * db < nb * da := by
  unfold cmpI; split
  · simp [*]
  · split <;> simp [*]
theorem cmpI_zero (na da nb db : Int) : cmpI na da nb db = 0 ↔ na * db = nb * da := by
  unfold cmpI; split
  · constructor
    · intro h; omega
    · intro h; omega
  · split <;> simp [*]
theorem cmpI_back (na da nb db : Int) : cmpI nb db na da = -cmpI na da nb db := by
  unfold cmpI; repeat' split
  all_goals omega
theorem cmpI_same (na da nb db : Int) (ha : RightP na da) (hb : RightP nb db) : cmpI na da nb db = 0 ↔ (na = nb ∧ da = db) := by
  rw [cmpI_zero]
  constructor
  · intro h
    have hd : 0 < db.natAbs := by have := hb.1; omega
    have e1 : fracI nb db.natAbs = some (nb, db) := (fracI_iff _ _ hd _ _).2 ⟨hb, by rw [natAbs_of hb.1]⟩
    have e2 : fracI nb db.natAbs = some (na, da) := (fracI_iff _ _ hd _ _).2 ⟨ha, by rw [natAbs_of hb.1]; exact h⟩
    rw [e1] at e2
    simp only [Option.some.injEq, Prod.mk.injEq] at e2
    exact ⟨e2.1.symm, e2.2.symm⟩
  · rintro ⟨rfl, rfl⟩; rfl
theorem cmpI_le (na da nb db : Int) : cmpI na da nb db ≤ 0 ↔ na * db ≤ nb * da := by
  have h1 := cmpI_lt na da nb db
  have h2 := cmpI_zero na da nb db
  have h3 := cmpI_vals na da nb db
  omega

/-- an order -/
theorem cmpI_trans (na da nb db nc dc : Int) (ha : 0 < da) (hb : 0 < db) (hc : 0 < dc) :
    (cmpI na da nb db ≤ 0 → cmpI nb db nc dc ≤ 0 → cmpI na da nc dc ≤ 0) ∧ (cmpI na da nb db < 0 → cmpI nb db nc dc ≤ 0 → cmpI na da nc dc < 0) ∧
    (cmpI na da nb db ≤ 0 → cmpI nb db nc dc < 0 → cmpI na da nc dc < 0) := by
  simp only [cmpI_le, cmpI_lt]
  have e1 : na * dc * db = na * db * dc := by rw [Int.mul_assoc, Int.mul_comm dc, Int.mul_assoc]
  have e2 : nb * da * dc = nb * dc * da := by rw [Int.mul_assoc, Int.mul_comm da, Int.mul_assoc]
  have e3 : nc * da * db = nc * db * da := by rw [Int.mul_assoc, Int.mul_comm da, Int.mul_assoc]
  refine ⟨fun h1 h2 => ?_, fun h1 h2 => ?_, fun h1 h2 => ?_⟩
  · have k1 := Int.mul_le_mul_of_nonneg_right h1 (show 0 ≤ dc by omega)
    have k2 := Int.mul_le_mul_of_nonneg_right h2 (show 0 ≤ da by omega)
    exact Int.le_of_mul_le_mul_right (show na * dc * db ≤ nc * da * db by omega) hb
  · have k1 := Int.mul_lt_mul_of_pos_right h1 hc
    have k2 := Int.mul_le_mul_of_nonneg_right h2 (show 0 ≤ da by omega)
    exact Int.lt_of_mul_lt_mul_right (show na * dc * db < nc * da * db by omega) (by omega)
  · have k1 := Int.mul_le_mul_of_nonneg_right h1 (show 0 ≤ dc by omega)
    have k2 := Int.mul_lt_mul_of_pos_right h2 ha
    exact Int.lt_of_mul_lt_mul_right (show na * dc * db < nc * da * db by omega) (by omega)

/-- a difference that fits has the sign -/
theorem sub_cases (na da nb db : Int) (ha : RightP na da) (hb : RightP nb db) :
    (∃ n d, sumV na da nb db true = .tuple #[.agg #[.int .i64 n, .int .i64 d], .nilIface] ∧ (n < 0 ↔ cmpI na da nb db < 0) ∧ (0 < n ↔ 0 < cmpI na da nb db)) ∨
    sumV na da nb db true = .tuple #[.agg #[.int .i64 0, .int .i64 0], errV 9] := by
  have e1 : sumV na da nb db true = ratV (fracI (na * db + -nb * da) (da.natAbs * db.natAbs)) := by
    unfold sumV; rw [rightB_of ha, rightB_of hb]; rfl
  rw [e1]
  have hp : 0 < da.natAbs * db.natAbs := Nat.mul_pos (by have := ha.1; omega) (by have := hb.1; omega)
  cases hF : fracI (na * db + -nb * da) (da.natAbs * db.natAbs) with
  | none => exact .inr rfl
  | some x =>
    obtain ⟨n, d⟩ := x
    obtain ⟨hr, he⟩ := (fracI_iff _ _ hp n d).1 hF
    refine .inl ⟨n, d, rfl, ?_⟩
    have k := sign_of (u := n) (v := na * db + -nb * da) (D := ((da.natAbs * db.natAbs : Nat) : Int)) (e := d) (by omega) (by have := hr.1; omega) he
    have h1 := cmpI_lt na da nb db
    have h2 := cmpI_zero na da nb db
    have h3 := cmpI_vals na da nb db
    rw [Int.neg_mul] at k
    omega
end Go.Proofs.Ytaipghojggiopaa
