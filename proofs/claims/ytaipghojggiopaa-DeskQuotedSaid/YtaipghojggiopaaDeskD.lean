/-
  Contracts of SameTexts and of the law's wide.
-/
import Derived.Test.YtaipghojggiopaaDeskC
import Derived.BigQuiet
namespace Go.Proofs.Ytaipghojggiopaa
set_option linter.unusedVariables false
open Go.RowKit

abbrev SlT (w : World) (a : Option Addr) (cap : Nat) (l : List (List UInt8)) : Prop := SlOf w enStrL 1 a cap l
theorem SlT.at {w : World} {a : Option Addr} {cap : Nat} {l : List (List UInt8)} (h : SlT w a cap l) {k : Nat} (hk : k < l.length) : ∃ b o, a = some ⟨b, o, none⟩ ∧ b < w.heap.size ∧ w.cell? ⟨b, o + k, none⟩ = some (.string ⟨l[k].toArray⟩) :=
  SlOf.cell1 h (fun x : List UInt8 => .string ⟨x.toArray⟩) (fun _ => rfl) hk

set_option maxHeartbeats 1000000 in
theorem sameTexts_any (l : List (List UInt8)) (n m : Nat) (hn : n = l.length) (hm : m = l.length) (a b : Option Addr) (p q : Nat) (w : World) (hs : SlT w a p l) (ht : SlT w b q l) :
    Calls Try.prog 8 #[.slice a n p, .slice b m q] w fun e w' => e = .returned (.bool true) ∧ Below w.heap.size w w' := by
  subst hm
  subst hn
  have h1 := hs.len
  have h2 := ht.len
  go_enter Try.func8, Try.ntmps8
  go_wp2_with fail
  go_loopw [5] (fun x wr => ∃ i : Nat, i ≤ l.length ∧ x = .int .i64 (i : Nat) ∧ Below w.heap.size w wr) (fun x _ => l.length - (intOf x).toNat)
  case atStart => exact ⟨0, Nat.zero_le _, rfl, Below.refl _ _⟩
  case round =>
    obtain ⟨i, hi, rfl, hb⟩ := hrel
    by_cases hlt : (i : Int) < l.length
    · have hlt' : i < l.length := by omega
      obtain ⟨ba, oa, rfl, hba, hc⟩ := SlT.at (hs.keep hb (Nat.le_refl _)) hlt'
      obtain ⟨bb, ob, rfl, hbb, hd⟩ := SlT.at (ht.keep hb (Nat.le_refl _)) hlt'
      generalize l[i] = x at *
      go_wp2_with fail
      go_quiet (fail)
      go_wp2_with fail
      go_roundw
      case rel => exact ⟨i + 1, by omega, by go_num, below_drewN hb _⟩
      case measure => simp [intOf]; omega
    · go_wp2_with fail
      go_ret
      exact ⟨rfl, hb⟩

def lensN (l : List (List UInt8)) : Nat := (l.map fun x => x.length + 1).sum
theorem lensN_snoc (l : List (List UInt8)) (x : List UInt8) : lensN (l ++ [x]) = lensN l + (x.length + 1) := by simp [lensN]

def wideP (l : List (List UInt8)) (e : Ending) : Prop := ∃ b, e = .returned (.bool b) ∧ (b = false → lensN l < 1048576)

set_option maxRecDepth 100000 in
set_option maxHeartbeats 1000000 in
theorem wide_any (l : List (List UInt8)) (a : Option Addr) (cap : Nat) (w : World) (hs : SlT w a cap l) :
    Calls Try.prog 9 #[.slice a l.length cap] w fun e w' => wideP l e ∧ Below w.heap.size w w' := by
  have h1 := hs.len
  go_enter Try.func9, Try.ntmps9
  go_wp2_with fail
  go_loopw [3, 4] (fun v x wr => ∃ i : Nat, i ≤ l.length ∧ x = .int .i64 (i : Nat) ∧ v = .int .i64 ((lensN (l.take i) : Nat) : Int) ∧ lensN (l.take i) < 1048576 ∧ Below w.heap.size w wr) (fun _ x _ => l.length - (intOf x).toNat)
  case atStart => exact ⟨0, Nat.zero_le _, rfl, rfl, by rw [List.take_zero, show lensN [] = 0 from rfl]; omega, Below.refl _ _⟩
  case round =>
    obtain ⟨i, hi, rfl, rfl, hsum, hb⟩ := hrel
    by_cases hlt : (i : Int) < l.length
    · have hlt' : i < l.length := by omega
      obtain ⟨ba, oa, rfl, hba, hc⟩ := SlT.at (hs.keep hb (Nat.le_refl _)) hlt'
      have HS : Hid (lensN (l.take (i + 1)) = lensN (l.take i) + (l[i].length + 1)) := Lib.hid (by rw [List.take_succ_eq_append_getElem hlt', lensN_snoc])
      generalize lensN (l.take i) = s at *
      generalize l[i] = x at *
      go_wp2_with fail
      all_goals first
        | (go_ret; exact ⟨⟨true, rfl, fun h => by cases h⟩, hb⟩)
        | skip
      rename_i hsm
      have hsx : (s : Int) + 1 + x.length < 1048576 := by
        split at hsm <;> omega
      go_roundw
      case rel =>
        refine ⟨i + 1, by omega, by go_num, ?_, by rw [HS.out]; omega, hb⟩
        rw [HS.out, if_neg (by omega)]
        go_num
      case measure => simp [intOf]; omega
    · have : i = l.length := by omega
      subst this
      rw [List.take_length] at hsum
      have HS := Lib.hid hsum
      go_wp2_with fail
      go_ret
      exact ⟨⟨_, rfl, fun _ => HS.out⟩, hb⟩
end Go.Proofs.Ytaipghojggiopaa
