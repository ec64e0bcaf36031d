/-
  errors.Is, errors.As, Num, Plain at a fault of api: contracts.
-/
import Derived.Test.YtmifjfohanegiaaDoorPlain
import Derived.Test.YtmifjfohanegiaaDoorChrB
namespace Go.Proofs.YtmifjfohanegiaaDoor
set_option linter.unusedVariables false
open Go.RowKit Go.Extern.Stop Go.Stop Go.Extern

theorem flMethodUnwrap (fuel : Nat) (v : Value) (w : World) : (Go.method (fuel + 1) 44 v "Unwrap").run Tryd.prog w = .ok (92, v) w := by kernel_rfl
theorem noIsL (v : Value) (xT : TypeId) (w : World) : (Instr.typeAssert (.iface 44 v) xT 121 true).run Tryd.prog w = .ok (.tuple #[.nilIface, .bool false]) w := run_typeAssert_lacksB Tryd.underlying121 (by kernel_rfl) (by kernel_rfl) v xT w
theorem hasUnwrapL (v : Value) (xT : TypeId) (w : World) : (Instr.typeAssert (.iface 44 v) xT 107 true).run Tryd.prog w = .ok (.tuple #[.iface 44 v, .bool true]) w := run_typeAssert_hasB Tryd.underlying107 (by kernel_rfl) v xT w
theorem noAsL (v : Value) (xT : TypeId) (w : World) : (Instr.typeAssert (.iface 44 v) xT 104 true).run Tryd.prog w = .ok (.tuple #[.nilIface, .bool false]) w := run_typeAssert_lacksB Tryd.underlying104 (by kernel_rfl) (by kernel_rfl) v xT w

theorem unwrapL (l c : Int) (m : Int) (w : World) : Calls Tryd.prog 92 #[.agg #[.int .i64 m, .int .i64 l, .int .i64 c]] w fun e w' => e = .returned (errV m) ∧ Below w.heap.size w w' := by
  unfold errV
  go_enter Tryd.func92, Tryd.ntmps92
  go_wp2
  go_ret
  exact ⟨rfl, (Below.refl _ _).alloc (Nat.le_refl _) _⟩

set_option maxRecDepth 100000 in
set_option maxHeartbeats 1000000 in
theorem isin_flt (l c : Int) (m n : Int) (w : World) :
    Calls Tryd.prog 54 #[.iface 44 (.agg #[.int .i64 m, .int .i64 l, .int .i64 c]), .iface 40 (.int .i64 n), .bool true] w fun e w' => e = .returned (.bool (m == n)) ∧ Below w.heap.size w w' := by
  have nF := noIsL
  have hF := hasUnwrapL
  have mU := flMethodUnwrap
  have nE := noIsE
  have uE := noUnwrapE
  have vE := noUnwrapsE
  have cu := unwrapL l c m
  unfold errV at cu
  have hne := fun (vx vy : Value) w => run_eql_iface_types (P := Tryd.prog) 44 40 vx vy Tryd.underlying24 (by decide) w
  have heq := fun w => Lib.run_eql_iface_int (P := Tryd.prog) w m n (k := .i64) Tryd.underlying24 (by kernel_rfl) Tryd.underlying40
  obtain ⟨b, hb⟩ : ∃ b, b = (m == n) := ⟨_, rfl⟩
  rw [← hb] at heq ⊢
  clear hb
  cases b
  · go_enter Tryd.func54, Tryd.ntmps54
    go_wp2
    refine wp_loop_rounds 2 ?_
    rw [rounds_succ]
    go_wp2_with fail
    with_reducible refine (cu _).mono ?_
    rintro e w1 ⟨rfl, hb⟩
    have HB := Lib.hid hb
    clear hb cu
    go_wp2_with fail
    rw [rounds_succ]
    go_wp2_with fail
    go_ret
    exact ⟨rfl, HB.out⟩
  · go_enter Tryd.func54, Tryd.ntmps54
    go_wp2
    refine wp_loop_rounds 2 ?_
    rw [rounds_succ]
    go_wp2_with fail
    with_reducible refine (cu _).mono ?_
    rintro e w1 ⟨rfl, hb⟩
    have HB := Lib.hid hb
    clear hb cu
    go_wp2_with fail
    rw [rounds_succ]
    go_wp2_with fail
    go_ret
    exact ⟨rfl, HB.out⟩

set_option maxRecDepth 100000 in
set_option maxHeartbeats 1000000 in
theorem is_flt (l c : Int) (m n : Int) (w : World) :
    Calls Tryd.prog 39 #[.iface 44 (.agg #[.int .i64 m, .int .i64 l, .int .i64 c]), .iface 40 (.int .i64 n)] w fun e w' => e = .returned (.bool (m == n)) ∧ Below w.heap.size w w' := by
  have h8 := @run_callFunc_extern Tryd.prog 53 _ Extern.ReflectliteType.typeOf Tryd.func53 (by kernel_rfl) (by kernel_rfl) (by kernel_rfl) (by kernel_rfl)
  have h32 := @run_callFunc_extern Tryd.prog 98 _ (Extern.ReflectliteType.method fun t => do Rtype.noPackHeld "Comparable" t; pure (.bool (← typeInfo t).comparable)) Tryd.func98 (by kernel_rfl) (by kernel_rfl) (by kernel_rfl) (by kernel_rfl)
  have tT := isTypeOf
  have cT := isComparable
  have mR := isMethodComparable
  have ci := isin_flt l c m n
  generalize (m == n) = b at *
  go_enter Tryd.func39, Tryd.ntmps39
  go_wp2_with fail
  with_reducible refine (ci _).mono ?_
  rintro e w1 ⟨rfl, hb⟩
  have HB := Lib.hid hb
  clear hb ci h8 h32 tT cT mR
  go_wp2_with fail
  go_ret
  exact ⟨rfl, HB.out⟩

set_option maxRecDepth 100000 in
set_option maxHeartbeats 1000000 in
theorem num_flt (l c : Int) (m : Int) (h1 : 1 ≤ m) (h2 : m ≤ 26) (w : World) : Calls Tryd.prog 16 #[.iface 44 (.agg #[.int .i64 m, .int .i64 l, .int .i64 c])] w fun e w' => e = .returned (.int .i64 m) ∧ Below w.heap.size w w' := by
  have ci := is_flt l c m
  go_enter Tryd.func16, Tryd.ntmps16
  go_wp2_with fail
  go_loopw [3, 4] (fun v n wr => ∃ k : Nat, 1 ≤ k ∧ k ≤ 27 ∧ n = .int .i64 k ∧ foundAt m k v ∧ Below w.heap.size w wr) (fun _ n _ => 27 - (intOf n).toNat)
  case atStart => exact ⟨1, by omega, by omega, rfl, by unfold foundAt; rw [if_pos (by omega)], Below.refl _ _⟩
  case round =>
    obtain ⟨k, hk1, hk2, rfl, hv, hb0⟩ := hrel
    unfold foundAt at hv
    by_cases hlt : (k : Int) ≤ 26
    · by_cases hkm : (k : Int) = m
      · have hb : (m == (k : Int)) = true := by rw [beq_iff_eq]; exact hkm.symm
        rw [if_pos (by omega)] at hv
        subst hv
        have hc := ci k
        rw [hb] at hc
        have HK := Lib.hid hkm
        clear hkm hb ci
        go_wp2_with fail
        with_reducible refine (hc _).mono ?_
        rintro e w1 ⟨rfl, hb1⟩
        have HB := Lib.hid (bstep hb0 hb1 (Nat.le_refl _))
        clear hb0 hb1
        go_wp2_with fail
        go_roundw
        case rel => exact ⟨k + 1, by omega, by omega, by go_num, by unfold foundAt; rw [if_neg (by have := HK.out; omega), HK.out], HB.out⟩
        case measure => simp [intOf]; omega
      · have hb : (m == (k : Int)) = false := by rw [beq_eq_false_iff_ne]; exact fun h => hkm h.symm
        have hc := ci k
        rw [hb] at hc
        by_cases hle : (k : Int) ≤ m
        · rw [if_pos hle] at hv
          subst hv
          clear hb ci
          go_wp2_with fail
          with_reducible refine (hc _).mono ?_
          rintro e w1 ⟨rfl, hb1⟩
          have HB := Lib.hid (bstep hb0 hb1 (Nat.le_refl _))
          clear hb0 hb1
          go_wp2_with fail
          go_roundw
          case rel => exact ⟨k + 1, by omega, by omega, by go_num, by unfold foundAt; rw [if_pos (by omega)], HB.out⟩
          case measure => simp [intOf]; omega
        · rw [if_neg hle] at hv
          subst hv
          clear hb ci
          go_wp2_with fail
          with_reducible refine (hc _).mono ?_
          rintro e w1 ⟨rfl, hb1⟩
          have HB := Lib.hid (bstep hb0 hb1 (Nat.le_refl _))
          clear hb0 hb1
          go_wp2_with fail
          go_roundw
          case rel => exact ⟨k + 1, by omega, by omega, by go_num, by unfold foundAt; rw [if_neg (by omega)], HB.out⟩
          case measure => simp [intOf]; omega
    · rw [if_neg (by omega)] at hv
      subst hv
      have hc := ci 0
      have hb : (m == 0) = false := by rw [beq_eq_false_iff_ne]; omega
      rw [hb] at hc
      clear ci
      go_wp2_with fail
      with_reducible refine (hc _).mono ?_
      rintro e w1 ⟨rfl, hb1⟩
      have HB := Lib.hid (bstep hb0 hb1 (Nat.le_refl _))
      clear hb0 hb1
      go_wp2_with fail
      go_ret
      exact ⟨rfl, HB.out⟩

end Go.Proofs.YtmifjfohanegiaaDoor
