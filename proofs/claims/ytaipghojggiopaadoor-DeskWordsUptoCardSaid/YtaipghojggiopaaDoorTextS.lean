/-
  Contracts of SameTexts and of MarkText.
-/
import Derived.Test.YtaipghojggiopaaDoorDeskB
import Derived.BigQuiet
namespace Go.Proofs.YtaipghojggiopaaDoor
set_option linter.unusedVariables false
open Go.RowKit

abbrev SlT (w : World) (a : Option Addr) (cap : Nat) (l : List (List UInt8)) : Prop := SlOf w enStrL 1 a cap l
theorem SlT.at {w : World} {a : Option Addr} {cap : Nat} {l : List (List UInt8)} (h : SlT w a cap l) {k : Nat} (hk : k < l.length) : ∃ b o, a = some ⟨b, o, none⟩ ∧ b < w.heap.size ∧ w.cell? ⟨b, o + k, none⟩ = some (.string ⟨l[k].toArray⟩) :=
  SlOf.cell1 h (fun x : List UInt8 => .string ⟨x.toArray⟩) (fun _ => rfl) hk

set_option maxHeartbeats 1000000 in
theorem sameTexts_any (l : List (List UInt8)) (n m : Nat) (hn : n = l.length) (hm : m = l.length) (a b : Option Addr) (p q : Nat) (w : World) (hs : SlT w a p l) (ht : SlT w b q l) :
    Calls Tryd.prog 19 #[.slice a n p, .slice b m q] w fun e w' => e = .returned (.bool true) ∧ Below w.heap.size w w' := by
  subst hm
  subst hn
  have h1 := hs.len
  have h2 := ht.len
  go_enter Tryd.func19, Tryd.ntmps19
  go_wp2_with fail
  go_loopw [5] (fun x wr => ∃ i : Nat, i ≤ l.length ∧ x = .int .i64 (i : Nat) ∧ Below w.heap.size w wr) (fun x _ => l.length - (intOf x).toNat)
  case atStart => exact ⟨0, Nat.zero_le _, rfl, Below.refl _ _⟩
  case round =>
    obtain ⟨i, hi, rfl, hb⟩ := hrel
    by_cases hlt : (i : Int) < l.length
    · have hlt' : i < l.length := by omega
      obtain ⟨ba, oa, rfl, hba, hc⟩ := SlT.at (hs.keep hb (Nat.le_refl _)) hlt'
      obtain ⟨bb, ob, rfl, hbb, hd⟩ := SlT.at (ht.keep hb (Nat.le_refl _)) hlt'
      generalize l[i] = x at *
      go_wp2_with fail
      go_quiet (fail)
      go_wp2_with fail
      go_roundw
      case rel => exact ⟨i + 1, by omega, by go_num, below_drewN hb _⟩
      case measure => simp [intOf]; omega
    · go_wp2_with fail
      go_ret
      exact ⟨rfl, hb⟩


/-- the mark of a place in a list of texts -/
def mkText (k i : Nat) : List UInt8 := [35, UInt8.ofNat k, UInt8.ofNat (k / 256), UInt8.ofNat i, UInt8.ofNat (i / 256)]
theorem enStrL_len (l : List UInt8) : (enStrL l).length = 1 := rfl
theorem conv_byte (n : Nat) : IntKind.u8.wrap (n : Int) = (((UInt8.ofNat n).toNat : Nat) : Int) := by
  unfold IntKind.wrap
  simp [IntKind.bits, IntKind.signed]

set_option maxRecDepth 100000 in
set_option maxHeartbeats 1000000 in
theorem markText_any (k i : Nat) (hk : k ≤ 1000000) (hi : i ≤ 281474976710656) (w : World) :
    Calls Tryd.prog 64 #[.int .i64 k, .int .i64 i] w fun e w' => e = .returned (.string ⟨(mkText k i).toArray⟩) ∧ Below w.heap.size w w' := by
  have e1 : (k : Int) / 256 = ((k / 256 : Nat) : Int) := by omega
  have e2 : (i : Int) / 256 = ((i / 256 : Nat) : Int) := by omega
  have c1 := conv_byte k
  have c2 := conv_byte (k / 256)
  have c3 := conv_byte i
  have c4 := conv_byte (i / 256)
  unfold mkText at *
  generalize k / 256 = k2 at *
  generalize i / 256 = i2 at *
  generalize UInt8.ofNat k = b1 at *
  generalize UInt8.ofNat k2 = b2 at *
  generalize UInt8.ofNat i = b3 at *
  generalize UInt8.ofNat i2 = b4 at *
  have hs := SlOf.lit w enByte 1 (fun _ => rfl) [35, b1, b2, b3, b4] #[.int .u8 35, .int .u8 b1.toNat, .int .u8 b2.toNat, .int .u8 b3.toNat, .int .u8 b4.toNat] 5 5 rfl rfl (by decide)
  have hconv : (convert 108 9 (.slice (some ⟨w.heap.size, 0, none⟩) 5 5)).run Tryd.prog (w.alloc (.cells #[.int .u8 35, .int .u8 b1.toNat, .int .u8 b2.toNat, .int .u8 b3.toNat, .int .u8 b4.toNat] 5)) = .ok (.string ⟨#[35, b1, b2, b3, b4]⟩) (w.alloc (.cells #[.int .u8 35, .int .u8 b1.toNat, .int .u8 b2.toNat, .int .u8 b3.toNat, .int .u8 b4.toNat] 5)) :=
    run_convert_bytes_back _ 108 9 5 ⟨w.heap.size, 0, none⟩ 5 [35, b1, b2, b3, b4] Tryd.underlying108 Tryd.underlying5 Tryd.underlying9 fun j hj => by
      obtain ⟨b, o, e1, _, hc⟩ := SlOf.cell1 hs (fun x : UInt8 => .int .u8 (x.toNat : Int)) (fun _ => rfl) hj
      cases e1
      rw [Addr.add_lit]
      exact hc
  have HB := Lib.hid ((Below.refl w.heap.size w).alloc (Nat.le_refl _) (.cells #[.int .u8 35, .int .u8 b1.toNat, .int .u8 b2.toNat, .int .u8 b3.toNat, .int .u8 b4.toNat] 5))
  clear hs
  go_enter Tryd.func64, Tryd.ntmps64
  go_wp2_with fail
  go_ret
  exact ⟨rfl, HB.out⟩

set_option maxRecDepth 100000 in
theorem markTexts_any (k i : Nat) (hk : k ≤ 1000000) (hi : i ≤ 281474976710656) (w : World) :
    Calls Tryd.prog 50 #[.int .i64 k, .int .i64 i] w fun e w' => e = .returned (.string ⟨(mkText k i).toArray⟩) ∧ Below w.heap.size w w' := by
  have c := markText_any k i hk hi
  generalize mkText k i = mt at *
  go_enter Tryd.func50, Tryd.ntmps50
  go_wp2_with fail
  with_reducible refine (c _).mono ?_
  rintro e w1 ⟨rfl, hb⟩
  go_wp2_with fail
  go_ret
  exact ⟨rfl, hb⟩
end Go.Proofs.YtaipghojggiopaaDoor
