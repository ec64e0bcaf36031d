/-
  errors.Is, errors.As, Num, Plain at a fault of api: contracts.
-/
import Derived.Test.YtmifjfohanegiaaGreatDoorAsErr
import Derived.Test.YtmifjfohanegiaaGreatDoorRatD
import Derived.Test.YtmifjfohanegiaaGreatDoorChrB

namespace Go.Proofs.YtmifjfohanegiaaGreatDoor
set_option linter.unusedVariables false
open Go.RowKit

/-- errors.errorType, as it is laid -/
def LaidT (w : World) : Prop := w.cell? ⟨0, 0, none⟩ = some (.iface 161 (.agg #[.pointer (some ⟨9, 25, none⟩)]))
theorem LaidT.keep {w w' : World} (h : LaidT w) (hb : Below w.heap.size w w') : LaidT w' := cell_keep' h hb

set_option maxRecDepth 100000 in
set_option maxHeartbeats 1000000 in
theorem plain_nil (n : Int) (w : World) : Calls Tryz.prog 14 #[.nilIface, .int .i64 n] w fun e w' => e = .returned (.bool (decide (0 = n))) ∧ Below w.heap.size w w' := by
  have c1 := num_nil
  by_cases h : 0 = n
  · subst h
    go_enter Tryz.func14, Tryz.ntmps14
    go_wp2_with fail
    with_reducible refine (c1 _).mono ?_
    rintro e w1 ⟨rfl, rfl⟩
    go_wp2_with fail
    go_ret
    exact ⟨rfl, (Below.refl _ _).alloc (Nat.le_refl _) _⟩
  · have hz : ((0 : Int) == n) = false := by rw [beq_eq_false_iff_ne]; exact h
    rw [decide_eq_false h]
    go_enter Tryz.func14, Tryz.ntmps14
    go_wp2_with fail
    with_reducible refine (c1 _).mono ?_
    rintro e w1 ⟨rfl, rfl⟩
    go_wp2_with fail
    go_ret
    exact ⟨rfl, (Below.refl _ _).alloc (Nat.le_refl _) _⟩

set_option maxRecDepth 100000 in
set_option maxHeartbeats 1000000 in
theorem plain_errno (m n : Int) (h1 : 1 ≤ m) (h2 : m ≤ 26) (w : World) (hg : LaidT w) : Calls Tryz.prog 14 #[errV m, .int .i64 n] w fun e w' => e = .returned (.bool (decide (m = n))) ∧ Below w.heap.size w w' := by
  have c1 := num_errno m h1 h2
  have HG := Lib.hid hg
  clear hg
  unfold errV
  by_cases h : m = n
  · subst h
    go_enter Tryz.func14, Tryz.ntmps14
    go_wp2_with fail
    with_reducible refine (c1 _).mono ?_
    rintro e w1 ⟨rfl, rfl⟩
    go_wp2_with fail
    with_reducible refine (as_errno m _ _ ?_).mono ?_
    · exact HG.out.keep ((Below.refl _ _).alloc (Nat.le_refl _) _)
    rintro e w2 ⟨rfl, hb⟩
    have HB := Lib.hid (((Below.refl _ _).alloc (Nat.le_refl _) _).trans (hb.mono (by simp)))
    clear hb
    go_wp2_with fail
    go_ret
    exact ⟨by simp, HB.out⟩
  · have hz : (m == n) = false := by rw [beq_eq_false_iff_ne]; exact h
    rw [decide_eq_false h]
    go_enter Tryz.func14, Tryz.ntmps14
    go_wp2_with fail
    with_reducible refine (c1 _).mono ?_
    rintro e w1 ⟨rfl, rfl⟩
    go_wp2_with fail
    go_ret
    exact ⟨rfl, (Below.refl _ _).alloc (Nat.le_refl _) _⟩

end Go.Proofs.YtmifjfohanegiaaGreatDoor

namespace Go.Proofs.YtmifjfohanegiaaGreatDoor
set_option linter.unusedVariables false
open Go.RowKit Go.Extern.Stop Go.Stop Go.Extern

theorem flMethodUnwrap (fuel : Nat) (v : Value) (w : World) : (Go.method (fuel + 1) 50 v "Unwrap").run Tryz.prog w = .ok (204, v) w := by kernel_rfl
theorem noIsL (v : Value) (xT : TypeId) (w : World) : (Instr.typeAssert (.iface 50 v) xT 206 true).run Tryz.prog w = .ok (.tuple #[.nilIface, .bool false]) w := run_typeAssert_lacksB Tryz.underlying206 (by kernel_rfl) (by kernel_rfl) v xT w
theorem hasUnwrapL (v : Value) (xT : TypeId) (w : World) : (Instr.typeAssert (.iface 50 v) xT 168 true).run Tryz.prog w = .ok (.tuple #[.iface 50 v, .bool true]) w := run_typeAssert_hasB Tryz.underlying168 (by kernel_rfl) v xT w
theorem noAsL (v : Value) (xT : TypeId) (w : World) : (Instr.typeAssert (.iface 50 v) xT 165 true).run Tryz.prog w = .ok (.tuple #[.nilIface, .bool false]) w := run_typeAssert_lacksB Tryz.underlying165 (by kernel_rfl) (by kernel_rfl) v xT w

theorem unwrapL (l c : Int) (m : Int) (w : World) : Calls Tryz.prog 204 #[.agg #[.int .i64 m, .int .i64 l, .int .i64 c]] w fun e w' => e = .returned (errV m) ∧ Below w.heap.size w w' := by
  unfold errV
  go_enter Tryz.func204, Tryz.ntmps204
  go_wp2
  go_ret
  exact ⟨rfl, (Below.refl _ _).alloc (Nat.le_refl _) _⟩

set_option maxRecDepth 100000 in
set_option maxHeartbeats 1000000 in
theorem isin_flt (l c : Int) (m n : Int) (w : World) :
    Calls Tryz.prog 102 #[.iface 50 (.agg #[.int .i64 m, .int .i64 l, .int .i64 c]), .iface 46 (.int .i64 n), .bool true] w fun e w' => e = .returned (.bool (m == n)) ∧ Below w.heap.size w w' := by
  have nF := noIsL
  have hF := hasUnwrapL
  have mU := flMethodUnwrap
  have nE := noIsE
  have uE := noUnwrapE
  have vE := noUnwrapsE
  have cu := unwrapL l c m
  unfold errV at cu
  have hne := fun (vx vy : Value) w => run_eql_iface_types (P := Tryz.prog) 50 46 vx vy Tryz.underlying25 (by decide) w
  have heq := fun w => Lib.run_eql_iface_int (P := Tryz.prog) w m n (k := .i64) Tryz.underlying25 (by kernel_rfl) Tryz.underlying46
  obtain ⟨b, hb⟩ : ∃ b, b = (m == n) := ⟨_, rfl⟩
  rw [← hb] at heq ⊢
  clear hb
  cases b
  · go_enter Tryz.func102, Tryz.ntmps102
    go_wp2
    refine wp_loop_rounds 2 ?_
    rw [rounds_succ]
    go_wp2_with fail
    with_reducible refine (cu _).mono ?_
    rintro e w1 ⟨rfl, hb⟩
    have HB := Lib.hid hb
    clear hb cu
    go_wp2_with fail
    rw [rounds_succ]
    go_wp2_with fail
    go_ret
    exact ⟨rfl, HB.out⟩
  · go_enter Tryz.func102, Tryz.ntmps102
    go_wp2
    refine wp_loop_rounds 2 ?_
    rw [rounds_succ]
    go_wp2_with fail
    with_reducible refine (cu _).mono ?_
    rintro e w1 ⟨rfl, hb⟩
    have HB := Lib.hid hb
    clear hb cu
    go_wp2_with fail
    rw [rounds_succ]
    go_wp2_with fail
    go_ret
    exact ⟨rfl, HB.out⟩

set_option maxRecDepth 100000 in
set_option maxHeartbeats 1000000 in
theorem is_flt (l c : Int) (m n : Int) (w : World) :
    Calls Tryz.prog 66 #[.iface 50 (.agg #[.int .i64 m, .int .i64 l, .int .i64 c]), .iface 46 (.int .i64 n)] w fun e w' => e = .returned (.bool (m == n)) ∧ Below w.heap.size w w' := by
  have h8 := @run_callFunc_extern Tryz.prog 101 _ Extern.ReflectliteType.typeOf Tryz.func101 (by kernel_rfl) (by kernel_rfl) (by kernel_rfl) (by kernel_rfl)
  have h32 := @run_callFunc_extern Tryz.prog 214 _ (Extern.ReflectliteType.method fun t => do Rtype.noPackHeld "Comparable" t; pure (.bool (← typeInfo t).comparable)) Tryz.func214 (by kernel_rfl) (by kernel_rfl) (by kernel_rfl) (by kernel_rfl)
  have tT := isTypeOf
  have cT := isComparable
  have mR := isMethodComparable
  have ci := isin_flt l c m n
  generalize (m == n) = b at *
  go_enter Tryz.func66, Tryz.ntmps66
  go_wp2_with fail
  with_reducible refine (ci _).mono ?_
  rintro e w1 ⟨rfl, hb⟩
  have HB := Lib.hid hb
  clear hb ci h8 h32 tT cT mR
  go_wp2_with fail
  go_ret
  exact ⟨rfl, HB.out⟩

set_option maxRecDepth 100000 in
set_option maxHeartbeats 1000000 in
theorem num_flt (l c : Int) (m : Int) (h1 : 1 ≤ m) (h2 : m ≤ 26) (w : World) : Calls Tryz.prog 32 #[.iface 50 (.agg #[.int .i64 m, .int .i64 l, .int .i64 c])] w fun e w' => e = .returned (.int .i64 m) ∧ Below w.heap.size w w' := by
  have ci := is_flt l c m
  go_enter Tryz.func32, Tryz.ntmps32
  go_wp2_with fail
  go_loopw [3, 4] (fun v n wr => ∃ k : Nat, 1 ≤ k ∧ k ≤ 27 ∧ n = .int .i64 k ∧ foundAt m k v ∧ Below w.heap.size w wr) (fun _ n _ => 27 - (intOf n).toNat)
  case atStart => exact ⟨1, by omega, by omega, rfl, by unfold foundAt; rw [if_pos (by omega)], Below.refl _ _⟩
  case round =>
    obtain ⟨k, hk1, hk2, rfl, hv, hb0⟩ := hrel
    unfold foundAt at hv
    by_cases hlt : (k : Int) ≤ 26
    · by_cases hkm : (k : Int) = m
      · have hb : (m == (k : Int)) = true := by rw [beq_iff_eq]; exact hkm.symm
        rw [if_pos (by omega)] at hv
        subst hv
        have hc := ci k
        rw [hb] at hc
        have HK := Lib.hid hkm
        clear hkm hb ci
        go_wp2_with fail
        with_reducible refine (hc _).mono ?_
        rintro e w1 ⟨rfl, hb1⟩
        have HB := Lib.hid (bstep hb0 hb1 (Nat.le_refl _))
        clear hb0 hb1
        go_wp2_with fail
        go_roundw
        case rel => exact ⟨k + 1, by omega, by omega, by go_num, by unfold foundAt; rw [if_neg (by have := HK.out; omega), HK.out], HB.out⟩
        case measure => simp [intOf]; omega
      · have hb : (m == (k : Int)) = false := by rw [beq_eq_false_iff_ne]; exact fun h => hkm h.symm
        have hc := ci k
        rw [hb] at hc
        by_cases hle : (k : Int) ≤ m
        · rw [if_pos hle] at hv
          subst hv
          clear hb ci
          go_wp2_with fail
          with_reducible refine (hc _).mono ?_
          rintro e w1 ⟨rfl, hb1⟩
          have HB := Lib.hid (bstep hb0 hb1 (Nat.le_refl _))
          clear hb0 hb1
          go_wp2_with fail
          go_roundw
          case rel => exact ⟨k + 1, by omega, by omega, by go_num, by unfold foundAt; rw [if_pos (by omega)], HB.out⟩
          case measure => simp [intOf]; omega
        · rw [if_neg hle] at hv
          subst hv
          clear hb ci
          go_wp2_with fail
          with_reducible refine (hc _).mono ?_
          rintro e w1 ⟨rfl, hb1⟩
          have HB := Lib.hid (bstep hb0 hb1 (Nat.le_refl _))
          clear hb0 hb1
          go_wp2_with fail
          go_roundw
          case rel => exact ⟨k + 1, by omega, by omega, by go_num, by unfold foundAt; rw [if_neg (by omega)], HB.out⟩
          case measure => simp [intOf]; omega
    · rw [if_neg (by omega)] at hv
      subst hv
      have hc := ci 0
      have hb : (m == 0) = false := by rw [beq_eq_false_iff_ne]; omega
      rw [hb] at hc
      clear ci
      go_wp2_with fail
      with_reducible refine (hc _).mono ?_
      rintro e w1 ⟨rfl, hb1⟩
      have HB := Lib.hid (bstep hb0 hb1 (Nat.le_refl _))
      clear hb0 hb1
      go_wp2_with fail
      go_ret
      exact ⟨rfl, HB.out⟩

end Go.Proofs.YtmifjfohanegiaaGreatDoor
