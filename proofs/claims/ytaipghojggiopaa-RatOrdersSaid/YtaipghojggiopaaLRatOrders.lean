/-
  PROVED: busbar/busbarlaw02.RatOrders: for every input the law returns true and leaves its arguments as they were. No condition.
-/
import Derived.Test.YtaipghojggiopaaRatW
namespace Go.Proofs.Ytaipghojggiopaa.ratOrders
open Go.ChangeShapes Go.WideShapes Go.ChangeAt Go.RowKit
open Go.ChangeMaps (open_string)
set_option linter.unusedVariables false

theorem own : ownKnob Try.prog.godebug = none := by kernel_rfl
theorem laidOut : laidOutB Try.prog = true := by kernel_rfl

set_option maxRecDepth 100000 in
theorem lifted (os : Os) (started : os.Started) (H : Type) (enc : TypeId × Value → H) :
    ReturnsInHanded {} Try.checked os 6 .any (Rows.ratOrdersSpec.pre6 enc Try.prog Try.f6 Rows.ratOrdersRow.domain false) (Rows.ratOrdersSpec.post enc Try.prog Try.f6 false true false false) := by
  refine returnsInHanded_of_change_sized (C := Try.checked) own started (by kernel_rfl) Try.func6
    (ChangeSpec.witness6 (enc := enc) (C := Try.checked) false ⟨#[], #[.agg #[.int .i64 0, .int .i64 0], .agg #[.int .i64 0, .int .i64 0], .agg #[.int .i64 0, .int .i64 0]], []⟩ 8 (by kernel_rfl) (by kernel_rfl) (by kernel_rfl) (by kernel_rfl)) ?_
  intro W base args ds gs before hval0 hW hcnd hsz _
  have hval : ∀ (j : Nat) t v, Try.f6.params[j]? = some t → args[j]? = some v → Value.okWide Try.prog W .any base t v := hval0
  have hW' := hW
  obtain ⟨p, q, hA0, hV, rfl, hfz, hnd⟩ := hW
  have hA : DataW.TrodAll enc Try.prog W 0 (fun _ => true) true Try.f6.params.toList args.toList ds p := hA0
  rw [Try.params6] at hA hval
  obtain ⟨v0, vs0, d0, ds0, p0, q0, hargs, rfl, rfl, h0, r0⟩ := trodAll_cons hA
  obtain ⟨v1, vs1, d1, ds1, p1, q1, rfl, rfl, rfl, h1, r1⟩ := trodAll_cons r0
  obtain ⟨v2, vs2, d2, ds2, p2, q2, rfl, rfl, rfl, h2, r2⟩ := trodAll_cons r1
  obtain ⟨rfl, rfl, rfl⟩ := trodAll_nil r2
  obtain rfl : args = #[v0, v1, v2] := by cases args; simp_all
  obtain ⟨rfl, rfl⟩ := trodVars_none hV
  obtain ⟨c00, c01, y00, y01, m0, rfl, rfl, rfl, z00, z01⟩ := Joins.open_agg2 Try.underlying33 (by kernel_rfl) (by kernel_rfl) (hval 0 _ _ rfl rfl) h0
  obtain ⟨rn0, e00, _, wn0⟩ := DataW.trod_int Try.underlying2 z00
  obtain ⟨rd0, e01, _, wd0⟩ := DataW.trod_int Try.underlying2 z01
  simp only [List.cons.injEq, and_true] at e00 e01
  subst e00 e01
  have bn0 := i64_bd wn0
  have bd0 := i64_bd wd0
  obtain ⟨c10, c11, y10, y11, m1, rfl, rfl, rfl, z10, z11⟩ := Joins.open_agg2 Try.underlying33 (by kernel_rfl) (by kernel_rfl) (hval 1 _ _ rfl rfl) h1
  obtain ⟨rn1, e10, _, wn1⟩ := DataW.trod_int Try.underlying2 z10
  obtain ⟨rd1, e11, _, wd1⟩ := DataW.trod_int Try.underlying2 z11
  simp only [List.cons.injEq, and_true] at e10 e11
  subst e10 e11
  have bn1 := i64_bd wn1
  have bd1 := i64_bd wd1
  obtain ⟨c20, c21, y20, y21, m2, rfl, rfl, rfl, z20, z21⟩ := Joins.open_agg2 Try.underlying33 (by kernel_rfl) (by kernel_rfl) (hval 2 _ _ rfl rfl) h2
  obtain ⟨rn2, e20, _, wn2⟩ := DataW.trod_int Try.underlying2 z20
  obtain ⟨rd2, e21, _, wd2⟩ := DataW.trod_int Try.underlying2 z21
  simp only [List.cons.injEq, and_true] at e20 e21
  subst e20 e21
  have bn2 := i64_bd wn2
  have bd2 := i64_bd wd2
  refine (ratOrders_walk rn0 rd0 rn1 rd1 rn2 rd2 bn0 bd0 bn1 bd1 bn2 bd2 W).mono fun e W' ⟨he, hb⟩ => ?_
  exact ⟨_, he, law_post laidOut (by decide +kernel) rfl Try.underlying4 rfl (fun l hl => by match l, hl with | [d0, d1, d2], _ => rfl) hW' hb⟩

theorem over : Rows.ratOrdersRow.holds Try.pinned (OpenSpec.ofChange Rows.ratOrdersSpec) :=
  OpenClaim.holds_of_wide 6 Try.f6 rfl rfl rfl rfl rfl rfl rfl ⟨rfl, rfl, rfl, rfl, rfl⟩ rfl rfl rfl rfl rfl (by kernel_rfl) Try.func6 (by kernel_rfl)
    (of_decide_eq_true (by kernel_rfl)) (by unfold Func.isWrapper; first | (rw [if_pos (by decide +kernel)]; kernel_rfl) | (rw [if_neg (by decide +kernel)]; exact ⟨rfl, rfl⟩))
    (fun os started H enc _ => lifted os started H enc)

theorem proved : Rows.RatOrdersSaid := over
#print axioms proved
end Go.Proofs.Ytaipghojggiopaa.ratOrders
