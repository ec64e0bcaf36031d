/-
  The reference's natural numbers: contracts of digit, trim, from, word, held.
-/
import Derived.Test.YtajebceanonalaaGreatDoorRows
import Derived.Test.YtajebceanonalaaGreatDoorBaseB
import Derived.Test.YtajebceanonalaaGreatDoorNatM
import Derived.Test.YtajebceanonalaaGreatDoorRatN
import Derived.BigQuiet
import Derived.Laws.IdiomStrings
import Derived.WalkLawsBesides
namespace Go.Proofs.YtajebceanonalaaGreatDoor
set_option linter.unusedVariables false
open Go.RowKit

def enW (d : Nat) : List Value := [.int .u32 (d : Int)]
theorem enW_len (d : Nat) : (enW d).length = 1 := rfl
theorem words_ty : SlTy Tryz.prog 52 103 1 4 := SlTy.mk' (.int .u32 0) Tryz.underlying52 (by kernel_rfl) rfl (by decide) (by decide)
abbrev SlD (w : World) (a : Option Addr) (cap : Nat) (l : List Nat) : Prop := SlOf w enW 1 a cap l
theorem SlD.at {w : World} {a : Option Addr} {cap : Nat} {l : List Nat} (h : SlD w a cap l) {k : Nat} (hk : k < l.length) : ∃ b o, a = some ⟨b, o, none⟩ ∧ b < w.heap.size ∧ w.cell? ⟨b, o + k, none⟩ = some (.int .u32 (l[k] : Nat)) :=
  SlOf.cell1 h (fun x => .int .u32 (x : Nat)) (fun _ => rfl) hk

/-- v is the number n, at hand in w -/
def NatV (w : World) (v : Value) (n : Nat) : Prop := ∃ a cap, v = .slice a (digs n).length cap ∧ SlD w a cap (digs n)
theorem NatV.keep {w w' : World} {v : Value} {n : Nat} (h : NatV w v n) (hb : Below w.heap.size w w') : NatV w' v n := by
  obtain ⟨a, cap, e, hs⟩ := h
  exact ⟨a, cap, e, hs.keep hb (Nat.le_refl _)⟩

theorem natV_take {w : World} {a : Option Addr} {cap k n : Nat} {l : List Nat} (hs : SlD w a cap l) (hk : k ≤ l.length) (h : l.take k = digs n) : NatV w (.slice a k cap) n := by
  have h1 : (digs n).length = k := by rw [← h, List.length_take, Nat.min_eq_left hk]
  refine ⟨a, cap, by rw [h1], ?_⟩
  rw [← h]
  refine SlOf.pre (ys := l.drop k) ?_ enW_len
  rw [List.take_append_drop]
  exact hs
/-- a slice that lies in no block below B -/
def FreshV (B : Nat) (v : Value) : Prop := ∀ a n c, v = .slice (some a) n c → B ≤ a.block
theorem fresh_of_owns {α : Type} {w : World} {base : Nat} {e : TypeId} {size : Nat} {en : α → List Value} {a : Option Addr} {n c : Nat} {xs : List α} (h : Owns w base e size en (.slice a n c) xs) (k : Nat) : FreshV base (.slice a k c) := fun ad n' c' he => by
  simp only [Value.slice.injEq] at he
  obtain ⟨rfl, _, _⟩ := he
  exact (h.lt ad.block rfl).1
theorem fresh_lit {B g o k c : Nat} (h : B ≤ g) : FreshV B (.slice (some ⟨g, o, none⟩) k c) := fun ad n' c' he => by
  simp only [Value.slice.injEq, Option.some.injEq] at he
  obtain ⟨rfl, _, _⟩ := he
  exact h
/-- what is handed back is the number n, in memory of the call's own -/
def RetNat (w : World) (n : Nat) (e : Ending) (w' : World) : Prop := ∃ v, e = .returned v ∧ NatV w' v n ∧ FreshV w.heap.size v ∧ Below w.heap.size w w'
def RetTrim (w : World) (a : Option Addr) (cap n : Nat) (e : Ending) (w' : World) : Prop := ∃ k, e = .returned (.slice a k cap) ∧ NatV w (.slice a k cap) n ∧ w' = w

set_option maxHeartbeats 1000000 in
theorem digit_any (l : List Nat) (hl : okD l) (a : Option Addr) (cap i : Nat) (hi : i < 4611686018427387904) (w : World) (hs : SlD w a cap l) :
    Calls Tryz.prog 66 #[.slice a l.length cap, .int .i64 i] w fun e w' => e = .returned (.int .u64 (l[i]?.getD 0 : Nat)) ∧ w' = w := by
  have hlen := hs.len
  by_cases h : i < l.length
  · obtain ⟨b, o, rfl, hb, hc⟩ := hs.at h
    have hd := hl l[i] (List.getElem_mem h)
    have HR := Lib.hid (show l[i]?.getD 0 = l[i] by rw [List.getElem?_eq_getElem h]; rfl)
    rw [HR.out]
    have hlt : (i : Int) < l.length := by omega
    have h1 : (l.length : Int) ≤ 9223372036854775807 := by omega
    generalize l[i] = x at *
    clear HR
    go_enter Tryz.func66, Tryz.ntmps66
    go_wp2
    go_ret
    exact ⟨rfl, rfl⟩
  · have HR := Lib.hid (show l[i]?.getD 0 = 0 by rw [List.getElem?_eq_none (by omega)]; rfl)
    rw [HR.out]
    have hlt : ¬ (i : Int) < l.length := by omega
    go_enter Tryz.func66, Tryz.ntmps66
    go_wp2
    go_ret
    exact ⟨rfl, rfl⟩

/-- the row without noughts behind, as far as the loop has come -/
def TrimAt (l : List Nat) (k : Nat) (x : Value) : Prop := x = .int .i64 (k : Nat) ∧ k ≤ l.length ∧ valD (l.take k) = valD l
theorem trim_step {l : List Nat} {k : Nat} (h : valD (l.take (k + 1)) = valD l) (hk : k < l.length) (h0 : l[k] = 0) : valD (l.take k) = valD l := by
  rw [← h, List.take_succ_eq_append_getElem hk, valD_snoc, h0]
  simp
theorem trim_end {l : List Nat} (hl : okD l) {k : Nat} (h : valD (l.take k) = valD l) (hk : k ≤ l.length) (h0 : ∀ (hlt : 0 < k), l[k - 1]'(by omega) ≠ 0) : l.take k = digs (valD l) := by
  rw [← h]
  refine (canon (okD_take hl k) fun x hx => ?_).symm
  rcases Nat.eq_zero_or_pos k with rfl | hp
  · simp at hx
  · have := h0 hp
    rw [List.getLast?_eq_getElem?, List.length_take, Nat.min_eq_left hk, List.getElem?_take_of_lt (by omega), List.getElem?_eq_getElem (by omega)] at hx
    simp only [Option.some.injEq] at hx
    rw [← hx]; exact this

set_option maxHeartbeats 1000000 in
theorem trim_any (l : List Nat) (hl : okD l) (a : Option Addr) (cap : Nat) (w : World) (hs : SlD w a cap l) :
    Calls Tryz.prog 67 #[.slice a l.length cap] w (RetTrim w a cap (valD l)) := by
  have hlen := hs.len
  go_enter Tryz.func67, Tryz.ntmps67
  go_wp2_with fail
  go_loop [3] (fun x => ∃ k, TrimAt l k x) (fun x => (intOf x).toNat)
  case atStart => exact ⟨l.length, rfl, Nat.le_refl _, by rw [List.take_length]⟩
  case round =>
    obtain ⟨k, rfl, hk, hv⟩ := hrel
    have HV := Lib.hid hv
    clear hv
    rcases Nat.eq_zero_or_pos k with h0 | h0
    · subst h0
      have HE := Lib.hid (trim_end hl HV.out hk (fun h => by omega))
      go_wp2_with fail
      go_ret
      exact ⟨_, rfl, natV_take hs hk HE.out, rfl⟩
    · obtain ⟨j, rfl⟩ : ∃ j, k = j + 1 := ⟨k - 1, by omega⟩
      obtain ⟨b, o, rfl, hb, hc⟩ := hs.at (show j < l.length by omega)
      have hd := hl l[j] (List.getElem_mem (by omega))
      have hj1 : ((j : Int) + 1) ≤ l.length := by omega
      have h1 : (l.length : Int) ≤ 9223372036854775807 := by omega
      have ej : ((j + 1 : Nat) : Int) = (j : Int) + 1 := by omega
      by_cases hz : l[j] = 0
      · have HV2 := Lib.hid (trim_step HV.out (by omega) hz)
        have hzb : ((l[j] : Nat) : Int) = 0 := by omega
        rw [hzb] at hc
        clear hd hz hzb
        go_wp2_with fail
        go_round
        case rel => exact ⟨j, rfl, by omega, HV2.out⟩
        case measure => simp [intOf]
      · have HE := Lib.hid (trim_end hl HV.out hk (fun h => by simpa using hz))
        have hzb : (((l[j] : Nat) : Int) == 0) = false := by rw [beq_eq_false_iff_ne]; omega
        go_wp2_with fail
        go_ret
        exact ⟨_, rfl, natV_take hs hk HE.out, rfl⟩

set_option maxHeartbeats 1000000 in
theorem from_any (n : Nat) (hn : n < 18446744073709551616) (w : World) :
    Calls Tryz.prog 26 #[.int .u64 n] w (RetNat w n) := by
  have e1 : IntKind.u32.wrap (n : Int) = ((n % 4294967296 : Nat) : Int) := by unfold IntKind.wrap; simp [IntKind.bits, IntKind.signed]
  have e2 : (n : Int) / 4294967296 = ((n / 4294967296 : Nat) : Int) := by omega
  have hl : okD [n % 4294967296, n / 4294967296] := by
    intro d hd
    simp only [List.mem_cons, List.not_mem_nil, or_false] at hd
    rcases hd with rfl | rfl <;> omega
  have hv : valD [n % 4294967296, n / 4294967296] = n := by simp only [valD]; omega
  have hd2 : n / 4294967296 < 4294967296 := by omega
  have ct := fun a cap w' hs => trim_any [n % 4294967296, n / 4294967296] hl a cap w' hs
  rw [hv] at ct
  clear hl hv
  generalize n % 4294967296 = d0 at *
  generalize n / 4294967296 = d1 at *
  have i1 : (n : Int) ≤ 18446744073709551615 := by omega
  have i2 : (d1 : Int) ≤ 4294967295 := by omega
  have hlit : SlD (w.alloc (.cells #[.int .u32 d0, .int .u32 d1] 103)) (some ⟨w.heap.size, 0, none⟩) 2 [d0, d1] := SlOf.lit w enW 1 enW_len [d0, d1] _ _ 2 rfl rfl (by decide)
  have HL := Lib.hid hlit
  clear hn hd2 hlit
  go_enter Tryz.func26, Tryz.ntmps26
  go_wp2_with fail
  refine (ct _ _ _ HL.out).mono ?_
  rintro e w1 ⟨k, rfl, hv, rfl⟩
  have HV := Lib.hid hv
  clear hv
  go_wp2_with fail
  go_ret
  exact ⟨.slice (some ⟨w.heap.size, 0, none⟩) k 2, rfl, HV.out, fresh_lit (Nat.le_refl _), (Below.refl w.heap.size w).alloc (Nat.le_refl _) _⟩
end Go.Proofs.YtajebceanonalaaGreatDoor
