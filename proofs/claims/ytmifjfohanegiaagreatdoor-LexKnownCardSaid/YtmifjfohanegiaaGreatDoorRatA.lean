/-
  Contracts of rat's gcd.
-/
import Derived.Test.YtmifjfohanegiaaGreatDoorRows
import Derived.Test.YtmifjfohanegiaaGreatDoorBaseB
import Derived.BigQuiet
namespace Go.Proofs.YtmifjfohanegiaaGreatDoor
set_option linter.unusedVariables false
open Go.RowKit

set_option maxHeartbeats 1000000 in
theorem gcd_drew (a b : Nat) (ha : a < 18446744073709551616) (hb : b < 18446744073709551616) (w : World) :
    Calls Tryz.prog 130 #[.int .u64 a, .int .u64 b] w fun e w' => e = .returned (.int .u64 (Nat.gcd b a : Nat)) ∧ ∃ m, w' = w.drewN m := by
  obtain ⟨g, hg⟩ : ∃ g, g = Nat.gcd b a := ⟨_, rfl⟩
  rw [← hg]
  go_enter Tryz.func130, Tryz.ntmps130
  go_wp2_with fail
  go_loopw [0, 1] (fun x y wr => ∃ p q m : Nat, p < 18446744073709551616 ∧ q < 18446744073709551616 ∧ x = .int .u64 (p : Nat) ∧ y = .int .u64 (q : Nat) ∧ g = Nat.gcd q p ∧ wr = w.drewN m) (fun _ y _ => (intOf y).toNat)
  case atStart => exact ⟨a, b, 0, ha, hb, rfl, rfl, hg, rfl⟩
  case round =>
    clear hg
    obtain ⟨p, q, m, hp, hq, rfl, rfl, hg, hb2⟩ := hrel
    have HB := Lib.hid hb2
    have HG := Lib.hid hg
    clear hg hb2
    by_cases h0 : q = 0
    · subst h0
      have HP : Hid (g = p) := Lib.hid (by rw [HG.out, Nat.gcd_zero_left])
      go_wp2_with fail
      go_ret
      exact ⟨by rw [HP.out]; rfl, m, HB.out⟩
    · have hne : ((q : Int) != 0) = true := by rw [bne_iff_ne]; omega
      go_wp2_with fail
      go_quiet (fail)
      go_wp2_with fail
      go_roundw
      case rel => exact ⟨q, p % q, m + nq, hq, Nat.lt_trans (Nat.mod_lt _ (by omega)) hq, rfl, by rw [Int.natCast_emod], by rw [HG.out, Nat.gcd_rec q p], by rw [HB.out, World.drewN_drewN]⟩
      case measure =>
        have := Nat.mod_lt p (show 0 < q by omega)
        simp only [intOf]
        omega

theorem gcd_any (a b : Nat) (ha : a < 18446744073709551616) (hb : b < 18446744073709551616) (w : World) :
    Calls Tryz.prog 130 #[.int .u64 a, .int .u64 b] w fun e w' => e = .returned (.int .u64 (Nat.gcd b a : Nat)) ∧ Below w.heap.size w w' :=
  (gcd_drew a b ha hb w).mono fun e w' ⟨he, m, hm⟩ => ⟨he, hm ▸ below_drewN (Below.refl _ _) _⟩
end Go.Proofs.YtmifjfohanegiaaGreatDoor
