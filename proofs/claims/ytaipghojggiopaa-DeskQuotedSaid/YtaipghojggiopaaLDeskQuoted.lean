/-
  PROVED: busbar/busbarlaw28.DeskQuoted: for every input the law returns true and leaves its arguments as they were. No condition.
-/
import Derived.Test.YtaipghojggiopaaDeskE
namespace Go.Proofs.Ytaipghojggiopaa.deskQuoted
open Go.ChangeShapes Go.WideShapes Go.ChangeAt Go.RowKit
open Go.ChangeMaps (open_string)
set_option linter.unusedVariables false

theorem own : ownKnob Try.prog.godebug = none := by kernel_rfl
theorem laidOut : laidOutB Try.prog = true := by kernel_rfl

set_option maxRecDepth 100000 in
theorem lifted (os : Os) (started : os.Started) (H : Type) (enc : TypeId × Value → H) :
    ReturnsInHanded {} Try.checked os 3 .any (Rows.deskQuotedSpec.pre6 enc Try.prog Try.f3 Rows.deskQuotedRow.domain false) (Rows.deskQuotedSpec.post enc Try.prog Try.f3 false true false false) := by
  refine returnsInHanded_of_change_sized (C := Try.checked) own started (by kernel_rfl) Try.func3
    (ChangeSpec.witness6 (enc := enc) (C := Try.checked) false ⟨#[], #[.slice none 0 0, .int .i64 0], []⟩ 8 (by kernel_rfl) (by kernel_rfl) (by kernel_rfl) (by kernel_rfl)) ?_
  intro W base args ds gs before hval0 hW hcnd hsz _
  have hval : ∀ (j : Nat) t v, Try.f3.params[j]? = some t → args[j]? = some v → Value.okWide Try.prog W .any base t v := hval0
  have hW' := hW
  obtain ⟨p, q, hA0, hV, rfl, hfz, hnd⟩ := hW
  have hA : DataW.TrodAll enc Try.prog W 0 (fun _ => true) true Try.f3.params.toList args.toList ds p := hA0
  rw [Try.params3] at hA hval
  obtain ⟨v0, vs0, d0, ds0, p0, q0, hargs, rfl, rfl, h0, r0⟩ := trodAll_cons hA
  obtain ⟨v1, vs1, d1, ds1, p1, q1, rfl, rfl, rfl, h1, r1⟩ := trodAll_cons r0
  obtain ⟨rfl, rfl, rfl⟩ := trodAll_nil r1
  obtain rfl : args = #[v0, v1] := by cases args; simp_all
  obtain ⟨rfl, rfl⟩ := trodVars_none hV
  obtain ⟨fu0, h0⟩ := h0
  obtain ⟨a0, cap0, xs0, hcs0, hs0, ok0, hd0⟩ := open_flat Try.underlying22 (flat_string Try.underlying9 (by kernel_rfl)) h0
  obtain rfl := slice_cells (okWide_slice Try.underlying22 (hval 0 _ _ rfl rfl)) hcs0
  have hr0 := reach_flat hsz (j := 0) rfl rfl Try.underlying22 (bytes := 16) (by kernel_rfl) hs0.le hd0
  obtain ⟨n1, rfl, rfl, rfl, wf1⟩ := open_int Try.underlying3 (hval 1 _ _ rfl rfl) h1
  refine (deskQuoted_walk' xs0 a0 cap0 n1 (i64_bd wf1) W hs0).mono fun e W' ⟨he, hb⟩ => ?_
  exact ⟨_, he, law_post laidOut (by decide +kernel) rfl Try.underlying4 rfl (fun l hl => by match l, hl with | [d0, d1], _ => rfl) hW' hb⟩

theorem over : Rows.deskQuotedRow.holds Try.pinned (OpenSpec.ofChange Rows.deskQuotedSpec) :=
  OpenClaim.holds_of_wide 3 Try.f3 rfl rfl rfl rfl rfl rfl rfl ⟨rfl, rfl, rfl, rfl, rfl⟩ rfl rfl rfl rfl rfl (by kernel_rfl) Try.func3 (by kernel_rfl)
    (of_decide_eq_true (by kernel_rfl)) (by unfold Func.isWrapper; first | (rw [if_pos (by decide +kernel)]; kernel_rfl) | (rw [if_neg (by decide +kernel)]; exact ⟨rfl, rfl⟩))
    (fun os started H enc _ => lifted os started H enc)

theorem proved : Rows.DeskQuotedSaid := over
#print axioms proved
end Go.Proofs.Ytaipghojggiopaa.deskQuoted
