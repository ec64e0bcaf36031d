/-
  Contract of rat's fit.
-/
import Derived.Test.YtampdbkafkcfdaaGreatDoorRows
import Derived.Test.YtampdbkafkcfdaaGreatDoorBaseD
import Derived.BigQuiet
import Derived.Test.YtampdbkafkcfdaaGreatDoorParR
import Derived.Test.YtampdbkafkcfdaaGreatDoorShelf
import Derived.Shelf.Spec.BitsCarry

namespace Go.Proofs.YtampdbkafkcfdaaGreatDoor
set_option linter.unusedVariables false
open Go.RowKit

set_option maxHeartbeats 1000000 in
theorem gcd_drew (a b : Nat) (ha : a < 18446744073709551616) (hb : b < 18446744073709551616) (w : World) :
    Calls Tryz.prog 88 #[.int .u64 a, .int .u64 b] w fun e w' => e = .returned (.int .u64 (Nat.gcd b a : Nat)) ∧ ∃ m, w' = w.drewN m := by
  obtain ⟨g, hg⟩ : ∃ g, g = Nat.gcd b a := ⟨_, rfl⟩
  rw [← hg]
  go_enter Tryz.func88, Tryz.ntmps88
  go_wp2_with fail
  go_loopw [0, 1] (fun x y wr => ∃ p q m : Nat, p < 18446744073709551616 ∧ q < 18446744073709551616 ∧ x = .int .u64 (p : Nat) ∧ y = .int .u64 (q : Nat) ∧ g = Nat.gcd q p ∧ wr = w.drewN m) (fun _ y _ => (intOf y).toNat)
  case atStart => exact ⟨a, b, 0, ha, hb, rfl, rfl, hg, rfl⟩
  case round =>
    clear hg
    obtain ⟨p, q, m, hp, hq, rfl, rfl, hg, hb2⟩ := hrel
    have HB := Lib.hid hb2
    have HG := Lib.hid hg
    clear hg hb2
    by_cases h0 : q = 0
    · subst h0
      have HP : Hid (g = p) := Lib.hid (by rw [HG.out, Nat.gcd_zero_left])
      go_wp2_with fail
      go_ret
      exact ⟨by rw [HP.out]; rfl, m, HB.out⟩
    · have hne : ((q : Int) != 0) = true := by rw [bne_iff_ne]; omega
      go_wp2_with fail
      go_quiet (fail)
      go_wp2_with fail
      go_roundw
      case rel => exact ⟨q, p % q, m + nq, hq, Nat.lt_trans (Nat.mod_lt _ (by omega)) hq, rfl, by rw [Int.natCast_emod], by rw [HG.out, Nat.gcd_rec q p], by rw [HB.out, World.drewN_drewN]⟩
      case measure =>
        have := Nat.mod_lt p (show 0 < q by omega)
        simp only [intOf]
        omega

theorem gcd_any (a b : Nat) (ha : a < 18446744073709551616) (hb : b < 18446744073709551616) (w : World) :
    Calls Tryz.prog 88 #[.int .u64 a, .int .u64 b] w fun e w' => e = .returned (.int .u64 (Nat.gcd b a : Nat)) ∧ Below w.heap.size w w' :=
  (gcd_drew a b ha hb w).mono fun e w' ⟨he, m, hm⟩ => ⟨he, hm ▸ Go.below_drewN (Below.refl _ _) _⟩
end Go.Proofs.YtampdbkafkcfdaaGreatDoor

namespace Go.Proofs.YtampdbkafkcfdaaGreatDoor
set_option linter.unusedVariables false
open Go.RowKit

set_option maxHeartbeats 1000000 in
theorem size_any (n : Int) (hn : -9223372036854775808 ≤ n ∧ n ≤ 9223372036854775807) (w : World) :
    Calls Tryz.prog 68 #[.int .i64 n] w fun e w' => e = .returned (.int .u64 (n.natAbs : Nat)) ∧ w' = w := by
  by_cases h : n < 0
  · obtain ⟨k, hk⟩ : ∃ k : Nat, n = -(k : Int) := ⟨n.natAbs, by omega⟩
    subst hk
    have e0 : (-(k : Int)).natAbs = k := by omega
    rw [e0]
    go_enter Tryz.func68, Tryz.ntmps68
    go_wp2
    go_ret
    refine ⟨?_, rfl⟩
    show Ending.returned (.int .u64 _) = Ending.returned (.int .u64 _)
    congr 2
    first | rfl | omega | (unfold IntKind.wrap; simp [IntKind.bits, IntKind.signed]; omega)
  · have e0 : (n.natAbs : Int) = n := by omega
    have E0 := Lib.hid e0
    clear e0
    go_enter Tryz.func68, Tryz.ntmps68
    go_wp2
    go_ret
    exact ⟨by rw [E0.out]; rfl, rfl⟩
end Go.Proofs.YtampdbkafkcfdaaGreatDoor

namespace Go.Proofs.YtampdbkafkcfdaaGreatDoor
set_option linter.unusedVariables false
open Go.RowKit

def rightB (n d : Int) : Bool := decide (1 ≤ d) && (Nat.gcd d.natAbs n.natAbs == 1)
def In64 (n : Int) : Prop := -9223372036854775808 ≤ n ∧ n ≤ 9223372036854775807
theorem rightB_iff (n d : Int) (hn : In64 n) (hd : In64 d) : rightB n d = true ↔ RightP n d := by
  unfold rightB RightP In64 at *
  rw [Bool.and_eq_true, decide_eq_true_eq, beq_iff_eq, Nat.gcd_comm]
  constructor
  · rintro ⟨h1, h2⟩; exact ⟨h1, hd.2, hn.1, hn.2, h2⟩
  · rintro ⟨h1, h2, h3, h4, h5⟩; exact ⟨h1, h5⟩

set_option maxHeartbeats 1000000 in
theorem right_any (n d : Int) (hn : In64 n) (hd : In64 d) (w : World) :
    Calls Tryz.prog 67 #[.agg #[.int .i64 n, .int .i64 d]] w fun e w' => e = .returned (.bool (rightB n d)) ∧ Below w.heap.size w w' := by
  unfold In64 at hn hd
  by_cases h1 : 1 ≤ d
  · obtain ⟨k, rfl⟩ := Int.eq_ofNat_of_zero_le (show 0 ≤ d by omega)
    have cs := fun w' => size_any n hn w'
    have cg := fun w' => gcd_drew n.natAbs k (by omega) (by omega) w'
    have HR : Hid (rightB n k = decide (((Nat.gcd k n.natAbs : Nat) : Int) = 1)) := Lib.hid (by
      unfold rightB
      rw [decide_eq_true h1, Bool.true_and, Int.natAbs_natCast, Bool.eq_iff_iff, beq_iff_eq, decide_eq_true_eq]
      omega)
    rw [HR.out]
    generalize n.natAbs = a at *
    generalize Nat.gcd k a = g at *
    go_enter Tryz.func67, Tryz.ntmps67
    go_wp2_with fail
    go_quiet (first | (go_at_call 68; exact Calls.quiet_of_same (cs _)) | (go_at_call 88; exact Calls.quiet_of (cg _)))
    go_wp2_with fail
    go_ret
    exact ⟨rfl, Go.below_drewN ((Below.refl _ _).alloc (Nat.le_refl _) _) _⟩
  · have hdd : decide (1 ≤ d) = false := decide_eq_false h1
    have HR : Hid (rightB n d = false) := Lib.hid (by unfold rightB; rw [hdd, Bool.false_and])
    rw [HR.out]
    go_enter Tryz.func67, Tryz.ntmps67
    go_wp2_with fail
    go_quiet (fail)
    go_wp2_with fail
    go_ret
    exact ⟨rfl, Go.below_drewN ((Below.refl _ _).alloc (Nat.le_refl _) _) _⟩
end Go.Proofs.YtampdbkafkcfdaaGreatDoor

namespace Go.Proofs.YtampdbkafkcfdaaGreatDoor
set_option linter.unusedVariables false
open Go.RowKit

/-- a fraction and an error, as they are handed back -/
def errV (n : Int) : Value := .iface 71 (.int .i64 n)
def ratV (r : Option (Int × Int)) : Value :=
  match r with
  | some (n, d) => .tuple #[.agg #[.int .i64 n, .int .i64 d], .nilIface]
  | none => .tuple #[.agg #[.int .i64 0, .int .i64 0], errV 9]

theorem fitE_zero (neg : Bool) (D : Nat) : fitE neg 0 D = some (0, 1) := by unfold fitE; rw [if_pos rfl]
theorem neg_conv (k : Nat) (h : k ≤ 9223372036854775808) : wrap64 (IntKind.u64.wrap (-(k : Int))) = -(k : Int) := by
  unfold wrap64 IntKind.wrap; simp [IntKind.bits, IntKind.signed]; omega

end Go.Proofs.YtampdbkafkcfdaaGreatDoor
