/-
  The reference's decimal: contract.
-/
import Derived.Test.YtampdbkafkcfdaaGreatDoorNatT
import Derived.Test.YtampdbkafkcfdaaGreatDoorParR
import Derived.Test.YtampdbkafkcfdaaGreatDoorAppB
import Derived.Laws.IdiomStrings

namespace Go.Proofs.YtampdbkafkcfdaaGreatDoor
set_option linter.unusedVariables false
open Go.RowKit

theorem strA (A B : List UInt8) : (⟨A.toArray⟩ : ByteArray) ++ ⟨B.toArray⟩ = ⟨(A ++ B).toArray⟩ := by
  apply ByteArray.ext
  simp
theorem fresh_low {B B' : Nat} {v : Value} (h : FreshV B v) (hb : B' ≤ B) : FreshV B' v := fun a n c e => Nat.le_trans hb (h a n c e)
theorem digs1 {n : Nat} (h : n < 4294967296) : (digs n).length ≤ 1 := (digs_len n 1).2 (by simpa using h)
theorem pow62 {j : Nat} (h : j ≤ 62) : (digs (10 ^ j)).length ≤ 8 := by
  refine (digs_len _ 8).2 (Nat.lt_of_le_of_lt (Nat.pow_le_pow_right (by decide) h) ?_)
  decide +kernel
end Go.Proofs.YtampdbkafkcfdaaGreatDoor

namespace Go.Proofs.YtampdbkafkcfdaaGreatDoor
set_option linter.unusedVariables false
open Go.RowKit

theorem conv_one (w : World) (c : UInt8) : (convert 114 9 (.slice (some ⟨w.heap.size, 0, none⟩) 1 1)).run Tryz.prog (w.alloc (.cells #[.int .u8 c.toNat] 5)) = .ok (.string ⟨#[c]⟩) (w.alloc (.cells #[.int .u8 c.toNat] 5)) := by
  have hs := SlOf.lit w enByte 1 (fun _ => rfl) [c] #[.int .u8 c.toNat] 5 1 rfl rfl (by decide)
  exact run_convert_bytes_back _ 114 9 5 ⟨w.heap.size, 0, none⟩ 1 [c] Tryz.underlying114 Tryz.underlying5 Tryz.underlying9 fun j hj => by
    obtain ⟨b, o, e1, _, hc⟩ := SlOf.cell1 hs (fun x : UInt8 => .int .u8 (x.toNat : Int)) (fun _ => rfl) hj
    cases e1
    rw [Addr.add_lit]
    exact hc
theorem str_cons (c : UInt8) (l : List UInt8) : (⟨#[c]⟩ : ByteArray) ++ ⟨l.toArray⟩ = ⟨(c :: l).toArray⟩ := strA [c] l
theorem digs_dec {n i : Nat} (h : n / 10 ^ i ≠ 0) : i ≤ 10 * (digs n).length := by
  have h1 : n < 4294967296 ^ (digs n).length := (digs_len n _).1 (Nat.le_refl _)
  have h2 : 4294967296 ^ (digs n).length ≤ 10 ^ (10 * (digs n).length) := by
    rw [Nat.pow_mul]
    exact Nat.pow_le_pow_left (by decide) _
  have h3 : 10 ^ i ≤ n := by
    rcases Nat.lt_or_ge n (10 ^ i) with h4 | h4
    · rw [Nat.div_eq_of_lt h4] at h; exact absurd rfl h
    · exact h4
  have h5 := (Nat.pow_lt_pow_iff_right (by decide : 1 < 10)).1 (Nat.lt_of_le_of_lt h3 (Nat.lt_of_lt_of_le h1 h2))
  omega

end Go.Proofs.YtampdbkafkcfdaaGreatDoor
