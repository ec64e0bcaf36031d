/-
  Contracts of the crc package's functions and of the reference's.
-/
import Derived.Test.YtflghgilcooiiaaRows
import Derived.Test.YtflghgilcooiiaaBase
import Derived.Test.YtflghgilcooiiaaCrcM
import Derived.Outline
namespace Go.Proofs.Ytflghgilcooiiaa
set_option linter.unusedVariables false
open Go.RowKit

theorem ret_int {k : IntKind} {a b : Int} (h : a = b) : Ending.returned (.int k a) = .returned (.int k b) := by rw [h]

theorem bit_hi (r : Nat) (h : r < 32768) : bits .and .u16 ((r : Int) / 16384) 1 = ((r / 16384 : Nat) : Int) := by
  have e : ((r : Int) / 16384) = ((r / 16384 : Nat) : Int) := by omega
  rw [e]
  refine (u16_and_nat (r / 16384) 1 (by omega) (by decide)).trans ?_
  rw [nat_mask1]
  omega
theorem bit_hi2 (r : Nat) (h : r < 32768) : bits .and .u16 (r : Int) 16384 = ((r / 16384 * 16384 : Nat) : Int) := by
  refine (u16_and_nat r 16384 (by omega) (by decide)).trans ?_
  have e := nat_bit 14 r
  simp only [Nat.reducePow] at e
  rw [e]
  omega
theorem low15 (r : Nat) (h : r < 32768) : bits .and .u16 ((r : Int) * 2) 32767 = ((r * 2 % 32768 : Nat) : Int) := by
  rw [show ((r : Int) * 2) = ((r * 2 : Nat) : Int) by omega]
  refine (u16_and_nat (r * 2) 32767 (by omega) (by decide)).trans ?_
  have e : r * 2 &&& 32767 = r * 2 % 32768 := Nat.and_two_pow_sub_one_eq_mod (r * 2) 15
  rw [e]
theorem xor_poly (s : Nat) (h : s < 32768) : bits .xor .u16 (s : Int) 17817 = ((s ^^^ 17817 : Nat) : Int) := u16_xor_nat s 17817 (by omega) (by decide)

theorem hi_eq (r : Nat) (h : r < 32768) : (bits .and .u16 ((r : Int) / 16384) 1 == 1) = (r / 16384 == 1) := by
  rw [bit_hi r h, Bool.eq_iff_iff]; simp only [beq_iff_eq]; omega
theorem hi_ne (r : Nat) (h : r < 32768) : (bits .and .u16 (r : Int) 16384 != 0) = (r / 16384 == 1) := by
  rw [bit_hi2 r h, Bool.eq_iff_iff]; simp only [bne_iff_ne, beq_iff_eq]; omega

set_option maxHeartbeats 400000 in
theorem next_any (r : Nat) (hr : r < 32768) (bit : Bool) (w : World) :
    Calls Try.prog 24 #[.int .u16 r, .bool bit] w fun e w' => e = .returned (.int .u16 (nx r bit)) ∧ w = w' := by
  go_enter Try.func24, Try.ntmps24
  go_wp2
  all_goals
    rename_i h
    rw [hi_eq r hr] at h
    go_ret
    refine ⟨ret_int ?_, rfl⟩
    rw [low15 r hr]
    unfold nx
  · rw [xor_poly _ (Nat.mod_lt _ (by decide)), if_neg (by simpa using h)]
  · rw [if_pos (by simpa using h)]

set_option maxHeartbeats 400000 in
theorem add_any (r : Nat) (hr : r < 32768) (bit : Bool) (b o : Nat) (w : World) (hc : w.cell? ⟨b, o, none⟩ = some (.int .u16 r)) (hf : w.frozen? ⟨b, o, none⟩ = false) :
    Calls Try.prog 23 #[.pointer (some ⟨b, o, none⟩), .bool bit] w fun e w' => e = .returned (.tuple #[]) ∧ w.setCell ⟨b, o, none⟩ (.int .u16 (nx r bit)) = w' := by
  go_enter Try.func23, Try.ntmps23
  go_wp2
  all_goals
    rename_i h
    rw [hi_ne r hr] at h
    refine ⟨rfl, .tuple #[], by simp [results, Try.results23], rfl, ?_⟩
    congr 2
    rw [low15 r hr]
    unfold nx
  · rw [xor_poly _ (Nat.mod_lt _ (by decide)), if_neg (by simpa using h)]
  · rw [if_pos (by simpa using h)]

set_option maxHeartbeats 400000 in
theorem regsum_any (r : Nat) (b o : Nat) (w : World) (hc : w.cell? ⟨b, o, none⟩ = some (.int .u16 r)) :
    Calls Try.prog 22 #[.pointer (some ⟨b, o, none⟩)] w fun e w' => e = .returned (.int .u16 r) ∧ w = w' := by
  go_enter Try.func22, Try.ntmps22
  go_wp2
  go_ret
  exact ⟨rfl, rfl⟩

set_option maxHeartbeats 400000 in
theorem crcnew_any (w : World) :
    Calls Try.prog 21 #[] w fun e w' => e = .returned (.pointer (some ⟨w.heap.size, 0, none⟩)) ∧ w.alloc (.cells #[.int .u16 0] 44) = w' := by
  go_enter Try.func21, Try.ntmps21
  go_wp2
  go_ret
  exact ⟨rfl, rfl⟩
end Go.Proofs.Ytflghgilcooiiaa
