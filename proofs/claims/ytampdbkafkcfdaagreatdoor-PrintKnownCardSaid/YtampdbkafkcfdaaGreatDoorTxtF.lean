/-
  strconv.FormatUint at base 10: contract.
-/
import Derived.Test.YtampdbkafkcfdaaGreatDoorShelf
import Derived.Test.YtampdbkafkcfdaaGreatDoorBaseD
import Derived.Test.YtampdbkafkcfdaaGreatDoorParR
import Derived.Lib.AppendIntMem
import Derived.Lib.ItoaMem

namespace Go.Proofs.YtampdbkafkcfdaaGreatDoor
set_option linter.unusedVariables false
open Go.RowKit Go.Sort

def PowTab (w : World) : Prop := Lib.TabIs Tryz.prog w "internal/strconv.uint64pow10" .u64 Lib.pow10Tab
theorem wrapU64 (n : Nat) (h : n < 18446744073709551616) : IntKind.i64.wrap (n : Int) = n ∨ 9223372036854775808 ≤ n := by
  by_cases h2 : n < 9223372036854775808
  · left; unfold IntKind.wrap; simp [IntKind.bits, IntKind.signed]; omega
  · right; omega

theorem below_growN (w : World) (k : Nat) (os : Array Obj) : Below w.heap.size w (grow (w.drewN k) os) := by
  have h : Below w.heap.size w (w.drewN k) := (Below.refl w.heap.size w).trans ⟨rfl, rfl, rfl, Nat.le_refl _, fun _ _ => rfl⟩
  refine ⟨h.os, h.tape, h.output, ?_, fun j hj => ?_⟩
  · simp [grow]
  · rw [← h.block j hj]
    simp only [grow]
    rw [Array.getElem?_append_left (by simpa using hj)]

set_option maxRecDepth 100000 in
set_option maxHeartbeats 4000000 in
theorem ifmtUint_any (u : Nat) (hu : u < 18446744073709551616) (w : World) (htab : PowTab w) :
    Calls Tryz.prog 66 #[.int .u64 u, .int .i64 10] w fun e w' => e = .returned (.string ⟨(Lib.decDigits u).toArray⟩) ∧ Below w.heap.size w w' := by
  unfold PowTab at htab
  by_cases hs : (u : Int) < 100
  · have c := Tryz.internal_strconv_small u (by omega)
    go_enter Tryz.func66, Tryz.ntmps66
    go_wp2_with fail
    with_reducible refine (c _).mono ?_
    rintro e w' ⟨rfl, rfl⟩
    go_wp2_with fail
    go_ret
    exact ⟨rfl, Below.refl _ _⟩
  · have hnd20 : Lib.nDigits u ≤ 20 := by have := Lib.numDigits_eq u (by omega) hu; split at this <;> omega
    have hb3 : Lib.nDigits u ≤ 24 := by omega
    have cn := fun W htab => Tryz.internal_strconv_numDigits u (by omega) hu W htab
    have hH0 := Lib.holds_zero0 w 159 (Lib.nDigits u) hb3
    have hfmt := Tryz.internal_strconv_formatBase10 w.heap.size 0 24 u (Array.replicate (Lib.nDigits u) 0) (w.alloc (.cells Lib.zeros24 159)) hH0 (by rw [Array.size_replicate]; exact Lib.lt_pow_nDigits u) hu (by rw [Array.size_replicate]; omega)
    rw [Array.size_replicate] at hfmt
    have hal : Tryz.prog.arrayLen 159 = 24 := by kernel_rfl
    have hsl : ∀ W, (Instr.sliceAt 159 (.pointer (some ⟨w.heap.size, 0, none⟩)) none (some (.int .i64 (Lib.nDigits u : Int))) none).run Tryz.prog W = .ok (.slice (some ⟨w.heap.size, 0, none⟩) (Lib.nDigits u) 24) W := fun W => by
      rw [run_sliceAt_array_h W 159 ⟨w.heap.size, 0, none⟩ (by kernel_rfl) .i64 (Lib.nDigits u : Int) (by omega) (by rw [hal]; omega)]
      go_simp
    clear hal
    have HH0 := Lib.hid hH0
    clear hH0
    go_enter Tryz.func66, Tryz.ntmps66
    go_wp2_with fail
    refine (cn _ (Lib.tabIs_alloc htab _)).mono ?_
    rintro e w' ⟨rfl, rfl⟩
    go_wp2_with fail
    refine hfmt.mono ?_
    rintro e w' ⟨rfl, k, v', dk, rfl, hF⟩
    have hcv : (convert 114 9 (.slice (some ⟨w.heap.size, 0, none⟩) (Lib.nDigits u) 24)).run Tryz.prog ((putRow (fun (b : UInt8) => Value.int .u8 (b.toNat : Int)) (w.alloc (.cells Lib.zeros24 159)) w.heap.size 0 dk).drewN k) = .ok (.string ⟨(Lib.decDigits u).toArray⟩) ((putRow (fun (b : UInt8) => Value.int .u8 (b.toNat : Int)) (w.alloc (.cells Lib.zeros24 159)) w.heap.size 0 dk).drewN k) := by
      have h := run_convert_bytes_back (P := Tryz.prog) ((putRow (fun (b : UInt8) => Value.int .u8 (b.toNat : Int)) (w.alloc (.cells Lib.zeros24 159)) w.heap.size 0 dk).drewN k) 114 9 5 ⟨w.heap.size, 0, none⟩ 24 (Lib.decDigits u) Tryz.underlying114 Tryz.underlying5 Tryz.underlying9 (fun j hj => by
        rw [Lib.row_is_numeral hF j hj, Lib.add_plain, World.cell?_drewN]
        exact cell?_putRow (fun (b : UInt8) => Value.int .u8 (b.toNat : Int)) _ w.heap.size 0 _ dk HH0.out (by rw [hF.size, Array.size_replicate]) j (by rw [hF.size]; rw [Lib.decDigits_length] at hj; exact hj))
      rw [Lib.decDigits_length] at h
      exact h
    obtain ⟨os, eo⟩ := Lib.fin_at w (.cells Lib.zeros24 159) dk k 0
    have HBB := Lib.hid (show Below w.heap.size w ((putRow (fun (b : UInt8) => Value.int .u8 (b.toNat : Int)) (w.alloc (.cells Lib.zeros24 159)) w.heap.size 0 dk).drewN k) by rw [eo]; exact below_growN w k os)
    clear eo hfmt cn
    go_wp2_with fail
    go_ret
    exact ⟨rfl, HBB.out⟩

theorem fmtUint_any (u : Nat) (hu : u < 18446744073709551616) (w : World) (htab : PowTab w) :
    Calls Tryz.prog 51 #[.int .u64 u, .int .i64 10] w fun e w' => e = .returned (.string ⟨(Lib.decDigits u).toArray⟩) ∧ Below w.heap.size w w' := by
  have c := ifmtUint_any u hu w htab
  clear htab
  go_enter Tryz.func51, Tryz.ntmps51
  go_wp2_with fail
  refine c.mono ?_
  rintro e w' ⟨rfl, hb⟩
  go_wp2_with fail
  go_ret
  exact ⟨rfl, hb⟩
end Go.Proofs.YtampdbkafkcfdaaGreatDoor
