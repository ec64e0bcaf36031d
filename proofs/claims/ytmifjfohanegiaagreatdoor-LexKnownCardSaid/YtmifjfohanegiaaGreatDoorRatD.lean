/-
  Contract of rat's fit.
-/
import Derived.Test.YtmifjfohanegiaaGreatDoorRatC
import Derived.Test.YtmifjfohanegiaaGreatDoorShelf
import Derived.Shelf.Spec.BitsCarry
namespace Go.Proofs.YtmifjfohanegiaaGreatDoor
set_option linter.unusedVariables false
open Go.RowKit

/-- a fraction and an error, as they are handed back -/
def errV (n : Int) : Value := .iface 46 (.int .i64 n)
def ratV (r : Option (Int × Int)) : Value :=
  match r with
  | some (n, d) => .tuple #[.agg #[.int .i64 n, .int .i64 d], .nilIface]
  | none => .tuple #[.agg #[.int .i64 0, .int .i64 0], errV 9]

theorem fitE_zero (neg : Bool) (D : Nat) : fitE neg 0 D = some (0, 1) := by unfold fitE; rw [if_pos rfl]
theorem neg_conv (k : Nat) (h : k ≤ 9223372036854775808) : wrap64 (IntKind.u64.wrap (-(k : Int))) = -(k : Int) := by
  unfold wrap64 IntKind.wrap; simp [IntKind.bits, IntKind.signed]; omega

set_option maxHeartbeats 1000000 in
theorem fit_any (neg : Bool) (N D : Nat) (hN : N < 340282366920938463463374607431768211456) (hD : D < 340282366920938463463374607431768211456) (w : World) :
    Calls Tryz.prog 30 #[.bool neg, .int .u64 (N / 18446744073709551616 : Nat), .int .u64 (N % 18446744073709551616 : Nat), .int .u64 (D / 18446744073709551616 : Nat), .int .u64 (D % 18446744073709551616 : Nat)] w
      fun e w' => e = .returned (ratV (fitE neg N D)) ∧ Below w.heap.size w w' := by
  have b1 : N / 18446744073709551616 < 18446744073709551616 := by omega
  have b2 : N % 18446744073709551616 < 18446744073709551616 := by omega
  have b3 : D / 18446744073709551616 < 18446744073709551616 := by omega
  have b4 : D % 18446744073709551616 < 18446744073709551616 := by omega
  have HN := Lib.hid (show N = N / 18446744073709551616 * 18446744073709551616 + N % 18446744073709551616 by omega)
  have HD := Lib.hid (show D = D / 18446744073709551616 * 18446744073709551616 + D % 18446744073709551616 by omega)
  generalize N / 18446744073709551616 = nh at *
  generalize N % 18446744073709551616 = nl at *
  generalize D / 18446744073709551616 = dh at *
  generalize D % 18446744073709551616 = dl at *
  have nz : ∀ z : Nat, z ≠ 0 → ((z : Int) == 0) = false ∧ ((z : Int) != 0) = true := fun z h => by
    rw [bne_iff_ne, beq_eq_false_iff_ne]; omega
  have big : ∀ z : Nat, z < 18446744073709551616 → 0 ≤ (z : Int) ∧ (z : Int) ≤ 18446744073709551615 := fun z h => by omega
  obtain ⟨n1, n2⟩ := big nh b1
  obtain ⟨n3, n4⟩ := big nl b2
  obtain ⟨n5, n6⟩ := big dh b3
  obtain ⟨n7, n8⟩ := big dl b4
  clear big
  by_cases hz : nh = 0 ∧ nl = 0
  · obtain ⟨rfl, rfl⟩ := hz
    have HF : Hid (fitE neg N D = some (0, 1)) := Lib.hid (by rw [HN.out]; exact fitE_zero _ _)
    rw [HF.out]
    clear nz
    go_enter Tryz.func30, Tryz.ntmps30
    go_wp2_with fail
    exact bodyPost_ret (v := .tuple #[.agg #[.int .i64 0, .int .i64 1], .nilIface]) (by simp [results, Tryz.results30, go_sem]) rfl ⟨rfl, (Below.refl _ _).alloc (Nat.le_refl _) _⟩
  · have hN0 : N ≠ 0 := by have := HN.out; omega
    by_cases hov : 9223372036854775807 < D ∨ 9223372036854775808 < N ∨ (N = 9223372036854775808 ∧ neg = false)
    · have HF : Hid (fitE neg N D = none) := Lib.hid (by unfold fitE; rw [if_neg hN0, if_pos hov])
      rw [HF.out]
      have HD' := HD.out
      have HN' := HN.out
      by_cases c1 : nh = 0
      · subst c1
        obtain ⟨q1, q2⟩ := nz nl (by omega)
        by_cases c2 : dh = 0
        · subst c2
          by_cases c3 : 9223372036854775807 < dl
          · have k3 : 9223372036854775807 < (dl : Int) := by omega
            clear HN' HD' hov hz hN0 nz
            go_enter Tryz.func30, Tryz.ntmps30
            go_wp2_with fail
            exact bodyPost_ret (v := .tuple #[.agg #[.int .i64 0, .int .i64 0], errV 9]) (by simp [results, Tryz.results30, go_sem, errV]) rfl ⟨rfl, (Below.refl _ _).alloc (Nat.le_refl _) _⟩
          · have k3 : ¬ 9223372036854775807 < (dl : Int) := by omega
            by_cases c4 : 9223372036854775808 < nl
            · have k4 : 9223372036854775808 < (nl : Int) := by omega
              clear HN' HD' hov hz hN0 nz
              go_enter Tryz.func30, Tryz.ntmps30
              go_wp2_with fail
              exact bodyPost_ret (v := .tuple #[.agg #[.int .i64 0, .int .i64 0], errV 9]) (by simp [results, Tryz.results30, go_sem, errV]) rfl ⟨rfl, (Below.refl _ _).alloc (Nat.le_refl _) _⟩
            · have k4 : ¬ 9223372036854775808 < (nl : Int) := by omega
              obtain ⟨hnl, rfl⟩ : nl = 9223372036854775808 ∧ neg = false := by
                rcases hov with h | h | ⟨h1, h2⟩
                · omega
                · omega
                · exact ⟨by omega, h2⟩
              have k5 : ((nl : Int) == 9223372036854775808) = true := by rw [beq_iff_eq]; omega
              clear HN' HD' hov hz hN0 nz hnl
              go_enter Tryz.func30, Tryz.ntmps30
              go_wp2_with fail
              exact bodyPost_ret (v := .tuple #[.agg #[.int .i64 0, .int .i64 0], errV 9]) (by simp [results, Tryz.results30, go_sem, errV]) rfl ⟨rfl, (Below.refl _ _).alloc (Nat.le_refl _) _⟩
        · obtain ⟨q3, q4⟩ := nz dh c2
          clear HN' HD' hov hz hN0 nz
          go_enter Tryz.func30, Tryz.ntmps30
          go_wp2_with fail
          exact bodyPost_ret (v := .tuple #[.agg #[.int .i64 0, .int .i64 0], errV 9]) (by simp [results, Tryz.results30, go_sem, errV]) rfl ⟨rfl, (Below.refl _ _).alloc (Nat.le_refl _) _⟩
      · obtain ⟨q1, q2⟩ := nz nh c1
        clear HN' HD' hov hz hN0 nz
        go_enter Tryz.func30, Tryz.ntmps30
        go_wp2_with fail
        exact bodyPost_ret (v := .tuple #[.agg #[.int .i64 0, .int .i64 0], errV 9]) (by simp [results, Tryz.results30, go_sem, errV]) rfl ⟨rfl, (Below.refl _ _).alloc (Nat.le_refl _) _⟩
    · have HF : Hid (fitE neg N D = some (sgn neg N, (D : Int))) := Lib.hid (by unfold fitE; rw [if_neg hN0, if_neg hov])
      rw [HF.out]
      have HD' := HD.out
      have HN' := HN.out
      obtain rfl : nh = 0 := by omega
      obtain rfl : dh = 0 := by omega
      obtain ⟨q1, q2⟩ := nz nl (by omega)
      have k3 : ¬ 9223372036854775807 < (dl : Int) := by omega
      have k4 : ¬ 9223372036854775808 < (nl : Int) := by omega
      have HND : Hid (N = nl ∧ D = dl) := Lib.hid (by omega)
      have HC := Lib.hid (neg_conv nl (by omega))
      cases neg
      · have k5 : ((nl : Int) == 9223372036854775808) = false := by
          rw [beq_eq_false_iff_ne]
          intro h
          exact hov (.inr (.inr ⟨by omega, rfl⟩))
        have k6 : (nl : Int) ≤ 9223372036854775807 := by rw [beq_eq_false_iff_ne] at k5; omega
        clear HN' HD' hov hz hN0 nz
        go_enter Tryz.func30, Tryz.ntmps30
        go_wp2_with fail
        exact bodyPost_ret (v := .tuple #[.agg #[.int .i64 nl, .int .i64 dl], .nilIface]) (by simp [results, Tryz.results30, go_sem]) rfl ⟨by rw [HND.out.1, HND.out.2]; rfl, (Below.refl _ _).alloc (Nat.le_refl _) _⟩
      · clear HN' HD' hov hz hN0 nz
        by_cases c5 : (nl : Int) = 9223372036854775808
        · have k5 : ((nl : Int) == 9223372036854775808) = true := by rw [beq_iff_eq]; omega
          clear c5
          go_enter Tryz.func30, Tryz.ntmps30
          go_wp2_with fail
          exact bodyPost_ret (v := .tuple #[.agg #[.int .i64 (wrap64 (IntKind.u64.wrap (-(nl : Int)))), .int .i64 dl], .nilIface]) (by simp [results, Tryz.results30, go_sem]) rfl ⟨by rw [HC.out, HND.out.1, HND.out.2]; rfl, (Below.refl _ _).alloc (Nat.le_refl _) _⟩
        · have k5 : ((nl : Int) == 9223372036854775808) = false := by rw [beq_eq_false_iff_ne]; omega
          clear c5
          go_enter Tryz.func30, Tryz.ntmps30
          go_wp2_with fail
          exact bodyPost_ret (v := .tuple #[.agg #[.int .i64 (wrap64 (IntKind.u64.wrap (-(nl : Int)))), .int .i64 dl], .nilIface]) (by simp [results, Tryz.results30, go_sem]) rfl ⟨by rw [HC.out, HND.out.1, HND.out.2]; rfl, (Below.refl _ _).alloc (Nat.le_refl _) _⟩
end Go.Proofs.YtmifjfohanegiaaGreatDoor
