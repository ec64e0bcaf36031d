/-
  Contracts of SameTokens and of busbarlaw04's works.
-/
import Derived.Test.YtmifjfohanegiaaGreatDoorLexG
import Derived.Test.YtmifjfohanegiaaGreatDoorCalm
namespace Go.Proofs.YtmifjfohanegiaaGreatDoor
set_option linter.unusedVariables false
open Go.RowKit Go.Shelf

theorem tok_at {w : World} {a : Option Addr} {cap : Nat} {l : List TokD} (h : SlOf w enTok 4 a cap l) {k : Nat} (hk : k < l.length) :
    ∃ b o, a = some ⟨b, o, none⟩ ∧ b < w.heap.size ∧ w.cell? ⟨b, o + k * 4, none⟩ = some (.int .i64 l[k].kind) ∧ w.cell? ⟨b, o + k * 4 + 1, none⟩ = some (.string ⟨l[k].text.toArray⟩) ∧ w.cell? ⟨b, o + k * 4 + 2, none⟩ = some (.int .i64 l[k].line) ∧ w.cell? ⟨b, o + k * 4 + 3, none⟩ = some (.int .i64 l[k].col) := by
  obtain ⟨b, o, rfl, hb, hc⟩ := SlOf.cells h enTok_len (by decide) hk
  exact ⟨b, o, rfl, hb, hc 0 (by decide), by rw [Nat.add_assoc]; exact hc 1 (by decide), by rw [Nat.add_assoc]; exact hc 2 (by decide), by rw [Nat.add_assoc]; exact hc 3 (by decide)⟩

set_option maxRecDepth 100000 in
set_option maxHeartbeats 2000000 in
theorem sameTokens_any (l : List TokD) (n m : Nat) (hn : n = l.length) (hm : m = l.length) (a b : Option Addr) (p q : Nat) (w : World) (hs : SlOf w enTok 4 a p l) (ht : SlOf w enTok 4 b q l) :
    Calls Tryz.prog 21 #[.slice a n p, .slice b m q] w fun e w' => e = .returned (.bool true) ∧ Below w.heap.size w w' := by
  subst hm
  subst hn
  have h1 := hs.len
  go_enter Tryz.func21, Tryz.ntmps21
  go_wp2_with fail
  go_loopw [5] (fun i wr => ∃ k : Nat, k ≤ l.length ∧ i = .int .i64 k ∧ Below w.heap.size w wr) (fun i _ => l.length - (intOf i).toNat)
  case atStart => exact ⟨0, Nat.zero_le _, rfl, Below.refl _ _⟩
  case round =>
    obtain ⟨k, hk, rfl, hbel⟩ := hrel
    by_cases hlt : k < l.length
    · obtain ⟨ba, oa, rfl, hba, hc0, hc1, hc2, hc3⟩ := tok_at (hs.keep hbel (Nat.le_refl _)) hlt
      obtain ⟨bb, ob, rfl, hbb, hd0, hd1, hd2, hd3⟩ := tok_at (ht.keep hbel (Nat.le_refl _)) hlt
      generalize l[k].kind = x0 at *
      generalize (⟨l[k].text.toArray⟩ : ByteArray) = x1 at *
      generalize l[k].line = x2 at *
      generalize l[k].col = x3 at *
      go_wp2_with fail
      go_quiet (fail)
      go_wp2_with fail
      go_roundw
      case rel => exact ⟨k + 1, by omega, by go_num, hbel.trans ⟨rfl, rfl, rfl, Nat.le_refl _, fun _ _ => rfl⟩⟩
      case measure => simp [intOf]; omega
    · have : k = l.length := by omega
      subst this
      go_wp2_with fail
      go_ret
      exact ⟨rfl, hbel⟩

def workS : List UInt8 := [97, 32, 56, 64, 48, 43]
def workT : List TokD := [⟨1, [97], 1, 1⟩, ⟨2, [56], 1, 3⟩, ⟨4, [64, 48, 43], 1, 4⟩, ⟨0, [], 1, 7⟩]
theorem work_scan : scanL workS = .good workT := by kernel_rfl

set_option maxRecDepth 100000 in
set_option maxHeartbeats 2000000 in
theorem works_any (w : World) (hT : TabsU w) :
    Calls Tryz.prog 7 #[] w fun e w' => e = .returned (.bool true) ∧ Below w.heap.size w w' := by
  have csc := scan_any workS (by decide) w hT
  rw [work_scan] at csc
  unfold RetScan at csc
  simp only at csc
  have HC := Lib.hid (show Calls Tryz.prog 6 #[.string ⟨#[97, 32, 56, 64, 48, 43]⟩] w _ from csc)
  clear csc hT
  go_enter Tryz.func7, Tryz.ntmps7
  go_wp2_with fail
  with_reducible refine (HC.out).mono ?_
  rintro e w1 ⟨a, c, rfl, ho, hb⟩
  have HB := Lib.hid hb
  have HS := Lib.hid ho.sl.2
  clear hb ho HC
  have HL := Lib.hid (SlOf.lit w1 enTok 4 enTok_len workT #[.int .i64 1, .string ⟨#[97]⟩, .int .i64 1, .int .i64 1, .int .i64 2, .string ⟨#[56]⟩, .int .i64 1, .int .i64 3, .int .i64 4, .string ⟨#[64, 48, 43]⟩, .int .i64 1, .int .i64 4, .int .i64 0, .string ⟨#[]⟩, .int .i64 1, .int .i64 7] 33 4 rfl rfl (by decide))
  have HS2 := Lib.hid (HS.out.alloc (.cells #[.int .i64 1, .string ⟨#[97]⟩, .int .i64 1, .int .i64 1, .int .i64 2, .string ⟨#[56]⟩, .int .i64 1, .int .i64 3, .int .i64 4, .string ⟨#[64, 48, 43]⟩, .int .i64 1, .int .i64 4, .int .i64 0, .string ⟨#[]⟩, .int .i64 1, .int .i64 7] 33))
  go_wp2_with fail
  with_reducible refine (sameTokens_any workT _ 4 rfl rfl _ _ _ _ _ HS2.out HL.out).mono ?_
  rintro e w2 ⟨rfl, hb⟩
  have HB2 := Lib.hid hb
  go_wp2_with fail
  go_ret
  exact ⟨rfl, bstep (HB.out.alloc HB.out.size _) HB2.out (by simp)⟩
end Go.Proofs.YtmifjfohanegiaaGreatDoor
