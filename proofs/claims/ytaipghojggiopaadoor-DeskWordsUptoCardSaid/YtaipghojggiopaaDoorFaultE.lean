/-
  errors.Is, errors.As, Num, Plain at a fault of desk: contracts.
-/
import Derived.Test.YtaipghojggiopaaDoorPlain
import Derived.Test.YtaipghojggiopaaDoorDeskB
namespace Go.Proofs.YtaipghojggiopaaDoor
set_option linter.unusedVariables false
open Go.RowKit Go.Extern.Stop Go.Stop Go.Extern

theorem ftMethodUnwrap (fuel : Nat) (v : Value) (w : World) : (Go.method (fuel + 1) 86 v "Unwrap").run Tryd.prog w = .ok (95, v) w := by kernel_rfl
theorem noIsF (v : Value) (xT : TypeId) (w : World) : (Instr.typeAssert (.iface 86 v) xT 128 true).run Tryd.prog w = .ok (.tuple #[.nilIface, .bool false]) w := run_typeAssert_lacksB Tryd.underlying128 (by kernel_rfl) (by kernel_rfl) v xT w
theorem hasUnwrapF (v : Value) (xT : TypeId) (w : World) : (Instr.typeAssert (.iface 86 v) xT 122 true).run Tryd.prog w = .ok (.tuple #[.iface 86 v, .bool true]) w := run_typeAssert_hasB Tryd.underlying122 (by kernel_rfl) v xT w
theorem noAsF (v : Value) (xT : TypeId) (w : World) : (Instr.typeAssert (.iface 86 v) xT 119 true).run Tryd.prog w = .ok (.tuple #[.nilIface, .bool false]) w := run_typeAssert_lacksB Tryd.underlying119 (by kernel_rfl) (by kernel_rfl) v xT w

theorem unwrapF (s : ByteArray) (m : Int) (w : World) : Calls Tryd.prog 95 #[.agg #[.string s, .int .i64 m]] w fun e w' => e = .returned (errV m) ∧ Below w.heap.size w w' := by
  unfold errV
  go_enter Tryd.func95, Tryd.ntmps95
  go_wp2
  go_ret
  exact ⟨rfl, (Below.refl _ _).alloc (Nat.le_refl _) _⟩

set_option maxRecDepth 100000 in
set_option maxHeartbeats 1000000 in
theorem isin_fault (s : ByteArray) (m n : Int) (w : World) :
    Calls Tryd.prog 69 #[.iface 86 (.agg #[.string s, .int .i64 m]), .iface 54 (.int .i64 n), .bool true] w fun e w' => e = .returned (.bool (m == n)) ∧ Below w.heap.size w w' := by
  have nF := noIsF
  have hF := hasUnwrapF
  have mU := ftMethodUnwrap
  have nE := noIsE
  have uE := noUnwrapE
  have vE := noUnwrapsE
  have cu := unwrapF s m
  unfold errV at cu
  have hne := fun (vx vy : Value) w => run_eql_iface_types (P := Tryd.prog) 86 54 vx vy Tryd.underlying25 (by decide) w
  have heq := fun w => Lib.run_eql_iface_int (P := Tryd.prog) w m n (k := .i64) Tryd.underlying25 (by kernel_rfl) Tryd.underlying54
  obtain ⟨b, hb⟩ : ∃ b, b = (m == n) := ⟨_, rfl⟩
  rw [← hb] at heq ⊢
  clear hb
  cases b
  · go_enter Tryd.func69, Tryd.ntmps69
    go_wp2
    refine wp_loop_rounds 2 ?_
    rw [rounds_succ]
    go_wp2_with fail
    with_reducible refine (cu _).mono ?_
    rintro e w1 ⟨rfl, hb⟩
    have HB := Lib.hid hb
    clear hb cu
    go_wp2_with fail
    rw [rounds_succ]
    go_wp2_with fail
    go_ret
    exact ⟨rfl, HB.out⟩
  · go_enter Tryd.func69, Tryd.ntmps69
    go_wp2
    refine wp_loop_rounds 2 ?_
    rw [rounds_succ]
    go_wp2_with fail
    with_reducible refine (cu _).mono ?_
    rintro e w1 ⟨rfl, hb⟩
    have HB := Lib.hid hb
    clear hb cu
    go_wp2_with fail
    rw [rounds_succ]
    go_wp2_with fail
    go_ret
    exact ⟨rfl, HB.out⟩

set_option maxRecDepth 100000 in
set_option maxHeartbeats 1000000 in
theorem is_fault (s : ByteArray) (m n : Int) (w : World) :
    Calls Tryd.prog 57 #[.iface 86 (.agg #[.string s, .int .i64 m]), .iface 54 (.int .i64 n)] w fun e w' => e = .returned (.bool (m == n)) ∧ Below w.heap.size w w' := by
  have h8 := @run_callFunc_extern Tryd.prog 68 _ Extern.ReflectliteType.typeOf Tryd.func68 (by kernel_rfl) (by kernel_rfl) (by kernel_rfl) (by kernel_rfl)
  have h32 := @run_callFunc_extern Tryd.prog 101 _ (Extern.ReflectliteType.method fun t => do Rtype.noPackHeld "Comparable" t; pure (.bool (← typeInfo t).comparable)) Tryd.func101 (by kernel_rfl) (by kernel_rfl) (by kernel_rfl) (by kernel_rfl)
  have tT := isTypeOf
  have cT := isComparable
  have mR := isMethodComparable
  have ci := isin_fault s m n
  generalize (m == n) = b at *
  go_enter Tryd.func57, Tryd.ntmps57
  go_wp2_with fail
  with_reducible refine (ci _).mono ?_
  rintro e w1 ⟨rfl, hb⟩
  have HB := Lib.hid hb
  clear hb ci h8 h32 tT cT mR
  go_wp2_with fail
  go_ret
  exact ⟨rfl, HB.out⟩

set_option maxRecDepth 100000 in
set_option maxHeartbeats 1000000 in
theorem num_fault (s : ByteArray) (m : Int) (h1 : 1 ≤ m) (h2 : m ≤ 26) (w : World) : Calls Tryd.prog 44 #[.iface 86 (.agg #[.string s, .int .i64 m])] w fun e w' => e = .returned (.int .i64 m) ∧ Below w.heap.size w w' := by
  have ci := is_fault s m
  go_enter Tryd.func44, Tryd.ntmps44
  go_wp2_with fail
  go_loopw [3, 4] (fun v n wr => ∃ k : Nat, 1 ≤ k ∧ k ≤ 27 ∧ n = .int .i64 k ∧ foundAt m k v ∧ Below w.heap.size w wr) (fun _ n _ => 27 - (intOf n).toNat)
  case atStart => exact ⟨1, by omega, by omega, rfl, by unfold foundAt; rw [if_pos (by omega)], Below.refl _ _⟩
  case round =>
    obtain ⟨k, hk1, hk2, rfl, hv, hb0⟩ := hrel
    unfold foundAt at hv
    by_cases hlt : (k : Int) ≤ 26
    · by_cases hkm : (k : Int) = m
      · have hb : (m == (k : Int)) = true := by rw [beq_iff_eq]; exact hkm.symm
        rw [if_pos (by omega)] at hv
        subst hv
        have hc := ci k
        rw [hb] at hc
        have HK := Lib.hid hkm
        clear hkm hb ci
        go_wp2_with fail
        with_reducible refine (hc _).mono ?_
        rintro e w1 ⟨rfl, hb1⟩
        have HB := Lib.hid (bstep hb0 hb1 (Nat.le_refl _))
        clear hb0 hb1
        go_wp2_with fail
        go_roundw
        case rel => exact ⟨k + 1, by omega, by omega, by go_num, by unfold foundAt; rw [if_neg (by have := HK.out; omega), HK.out], HB.out⟩
        case measure => simp [intOf]; omega
      · have hb : (m == (k : Int)) = false := by rw [beq_eq_false_iff_ne]; exact fun h => hkm h.symm
        have hc := ci k
        rw [hb] at hc
        by_cases hle : (k : Int) ≤ m
        · rw [if_pos hle] at hv
          subst hv
          clear hb ci
          go_wp2_with fail
          with_reducible refine (hc _).mono ?_
          rintro e w1 ⟨rfl, hb1⟩
          have HB := Lib.hid (bstep hb0 hb1 (Nat.le_refl _))
          clear hb0 hb1
          go_wp2_with fail
          go_roundw
          case rel => exact ⟨k + 1, by omega, by omega, by go_num, by unfold foundAt; rw [if_pos (by omega)], HB.out⟩
          case measure => simp [intOf]; omega
        · rw [if_neg hle] at hv
          subst hv
          clear hb ci
          go_wp2_with fail
          with_reducible refine (hc _).mono ?_
          rintro e w1 ⟨rfl, hb1⟩
          have HB := Lib.hid (bstep hb0 hb1 (Nat.le_refl _))
          clear hb0 hb1
          go_wp2_with fail
          go_roundw
          case rel => exact ⟨k + 1, by omega, by omega, by go_num, by unfold foundAt; rw [if_neg (by omega)], HB.out⟩
          case measure => simp [intOf]; omega
    · rw [if_neg (by omega)] at hv
      subst hv
      have hc := ci 0
      have hb : (m == 0) = false := by rw [beq_eq_false_iff_ne]; omega
      rw [hb] at hc
      clear ci
      go_wp2_with fail
      with_reducible refine (hc _).mono ?_
      rintro e w1 ⟨rfl, hb1⟩
      have HB := Lib.hid (bstep hb0 hb1 (Nat.le_refl _))
      clear hb0 hb1
      go_wp2_with fail
      go_ret
      exact ⟨rfl, HB.out⟩

end Go.Proofs.YtaipghojggiopaaDoor
