/-
  RatKnown: knownTexts.
-/
import Derived.Test.YtajebceanonalaaGreatDoorKnoA
import Derived.Test.YtajebceanonalaaGreatDoorParses
import Derived.Test.YtajebceanonalaaGreatDoorTxtA
namespace Go.Proofs.YtajebceanonalaaGreatDoor
set_option linter.unusedVariables false
open Go.RowKit

def enS (s : List UInt8) : List Value := [.string ⟨s.toArray⟩]
theorem SlS.at {w : World} {a : Option Addr} {cap : Nat} {l : List (List UInt8)} (h : SlOf w enS 1 a cap l) {k : Nat} (hk : k < l.length) :
    ∃ b o, a = some ⟨b, o, none⟩ ∧ b < w.heap.size ∧ w.cell? ⟨b, o + k, none⟩ = some (.string ⟨l[k].toArray⟩) := SlOf.cell1 h (fun s => Value.string ⟨s.toArray⟩) (fun _ => rfl) hk
def signL : List (List UInt8) := [[], [45], [43], [45, 45], [32]]
def signK (k : Nat) : List UInt8 := signL.getD k []
theorem signK_len (k : Nat) : (signK k).length ≤ 40 := by
  unfold signK
  by_cases hk : k < signL.length
  · rw [show signL.getD k [] = signL[k] by simp [List.getD, hk]]
    exact of_decide_eq_true (List.all_eq_true.1 (show signL.all (fun x => decide (x.length ≤ 40)) = true by decide +kernel) _ (List.getElem_mem hk))
  · rw [show signL.getD k [] = [] by simp [List.getD, List.getElem?_eq_none (Nat.le_of_not_lt hk)]]
    exact Nat.zero_le _
def wholL : List (List UInt8) := [[], [48], [55], [48, 48, 55], [57, 50, 50, 51, 51, 55, 50, 48, 51, 54, 56, 53, 52, 55, 55, 53, 56, 48, 55], [57, 50, 50, 51, 51, 55, 50, 48, 51, 54, 56, 53, 52, 55, 55, 53, 56, 48, 56], [49, 48, 48, 48, 48, 48, 48, 48, 48, 48, 48, 48, 48, 48, 48, 48, 48, 48, 48, 48, 48, 48, 48, 48, 48, 48, 48, 48, 48, 48, 48, 48]]
def wholK (k : Nat) : List UInt8 := wholL.getD k []
theorem wholK_len (k : Nat) : (wholK k).length ≤ 40 := by
  unfold wholK
  by_cases hk : k < wholL.length
  · rw [show wholL.getD k [] = wholL[k] by simp [List.getD, hk]]
    exact of_decide_eq_true (List.all_eq_true.1 (show wholL.all (fun x => decide (x.length ≤ 40)) = true by decide +kernel) _ (List.getElem_mem hk))
  · rw [show wholL.getD k [] = [] by simp [List.getD, List.getElem?_eq_none (Nat.le_of_not_lt hk)]]
    exact Nat.zero_le _
def backL : List (List UInt8) := [[], [46], [46, 48], [46, 53], [46, 49, 50, 53], [46, 48, 48, 48, 48, 48, 48, 48, 48, 48, 48, 48, 48, 48, 48, 48, 48, 48, 48, 48, 48, 48, 48, 48, 48, 48, 48, 49], [46, 48, 48, 48, 48, 48, 48, 48, 48, 48, 48, 48, 48, 48, 48, 48, 48, 48, 48, 48, 48, 48, 48, 48, 48, 48, 48, 48, 49], [46, 51, 51]]
def backK (k : Nat) : List UInt8 := backL.getD k []
theorem backK_len (k : Nat) : (backK k).length ≤ 40 := by
  unfold backK
  by_cases hk : k < backL.length
  · rw [show backL.getD k [] = backL[k] by simp [List.getD, hk]]
    exact of_decide_eq_true (List.all_eq_true.1 (show backL.all (fun x => decide (x.length ≤ 40)) = true by decide +kernel) _ (List.getElem_mem hk))
  · rw [show backL.getD k [] = [] by simp [List.getD, List.getElem?_eq_none (Nat.le_of_not_lt hk)]]
    exact Nat.zero_le _
def poweL : List (List UInt8) := [[], [101], [69, 49], [101, 45, 49], [101, 43, 50], [101, 45], [101, 49, 57], [101, 45, 50, 55], [101, 45, 51, 50], [101, 57, 57, 57, 57, 57, 57, 57, 57, 57, 57, 57, 57, 57, 57, 57, 57, 57, 57, 57, 57], [101, 45, 57, 57, 57, 57, 57, 57, 57, 57, 57, 57, 57, 57, 57, 57, 57, 57, 57, 57, 57, 57], [101, 49, 32], [120]]
def poweK (k : Nat) : List UInt8 := poweL.getD k []
theorem poweK_len (k : Nat) : (poweK k).length ≤ 40 := by
  unfold poweK
  by_cases hk : k < poweL.length
  · rw [show poweL.getD k [] = poweL[k] by simp [List.getD, hk]]
    exact of_decide_eq_true (List.all_eq_true.1 (show poweL.all (fun x => decide (x.length ≤ 40)) = true by decide +kernel) _ (List.getElem_mem hk))
  · rw [show poweL.getD k [] = [] by simp [List.getD, List.getElem?_eq_none (Nat.le_of_not_lt hk)]]
    exact Nat.zero_le _
theorem kparse0 (w : World) : Calls Tryz.prog 6 #[.string ⟨#[45, 52, 48]⟩] w fun e w' => e = .returned (.tuple #[.agg #[.int .i64 (-40), .int .i64 1], .nilIface]) ∧ Below w.heap.size w w' :=
  ret_turn (parse_any [45, 52, 48] (by decide) w) (by kernel_rfl)
theorem kparse1 (w : World) : Calls Tryz.prog 6 #[.string ⟨#[43, 49, 46, 53, 48, 101, 49]⟩] w fun e w' => e = .returned (.tuple #[.agg #[.int .i64 15, .int .i64 1], .nilIface]) ∧ Below w.heap.size w w' :=
  ret_turn (parse_any [43, 49, 46, 53, 48, 101, 49] (by decide) w) (by kernel_rfl)
theorem kparse2 (w : World) : Calls Tryz.prog 6 #[.string ⟨#[46, 53]⟩] w fun e w' => e = .returned (.tuple #[.agg #[.int .i64 0, .int .i64 0], errV 8]) ∧ Below w.heap.size w w' :=
  ret_turn (parse_any [46, 53] (by decide) w) (by kernel_rfl)
theorem kparse3 (w : World) : Calls Tryz.prog 6 #[.string ⟨#[49, 101, 49, 57]⟩] w fun e w' => e = .returned (.tuple #[.agg #[.int .i64 0, .int .i64 0], errV 9]) ∧ Below w.heap.size w w' :=
  ret_turn (parse_any [49, 101, 49, 57] (by decide) w) (by kernel_rfl)
set_option maxRecDepth 100000 in
set_option maxHeartbeats 8000000 in
theorem knownTexts_any (w : World) (hg : LaidT w) :
    Calls Tryz.prog 13 #[] w fun e w' => e = .returned (.bool true) ∧ Below w.heap.size w w' := by
  have HG := Lib.hid hg
  have HB := Lib.hid (Below.refl w.heap.size w)
  clear hg
  obtain ⟨w0, hw0⟩ : ∃ x, x = w := ⟨_, rfl⟩
  subst hw0
  go_enter Tryz.func13, Tryz.ntmps13
  go_wp2_with fail
  have HSZ := Lib.hid (rfl : w0.heap.size = w0.heap.size)
  obtain ⟨hA, hb⟩ : SlOf (w0.alloc (.cells #[.string ⟨#[]⟩, .string ⟨#[45]⟩, .string ⟨#[43]⟩, .string ⟨#[45, 45]⟩, .string ⟨#[32]⟩] 9)) enS 1 (some ⟨w0.heap.size, 0, none⟩) 5 signL ∧ Below w0.heap.size w0 (w0.alloc (.cells #[.string ⟨#[]⟩, .string ⟨#[45]⟩, .string ⟨#[43]⟩, .string ⟨#[45, 45]⟩, .string ⟨#[32]⟩] 9)) := ⟨by rw [← HSZ.out]; exact SlOf.lit w0 enS 1 (fun _ => rfl) signL _ _ 5 rfl rfl (by decide), (Below.refl _ _).alloc (Nat.le_refl _) _⟩
  replace HSZ := Lib.hid (show (w0.alloc (.cells #[.string ⟨#[]⟩, .string ⟨#[45]⟩, .string ⟨#[43]⟩, .string ⟨#[45, 45]⟩, .string ⟨#[32]⟩] 9)).heap.size = w0.heap.size + 1 by rw [← HSZ.out]; simp)
  replace HB := Lib.hid (bstep HB.out hb (Nat.le_refl _))
  replace HG := Lib.hid (LaidT.keep HG.out hb)
  have S0 := Lib.hid hA
  clear hb hA
  generalize w0.alloc (.cells #[.string ⟨#[]⟩, .string ⟨#[45]⟩, .string ⟨#[43]⟩, .string ⟨#[45, 45]⟩, .string ⟨#[32]⟩] 9) = w1 at *
  obtain ⟨hA, hb⟩ : SlOf (w1.alloc (.cells #[.string ⟨#[]⟩, .string ⟨#[48]⟩, .string ⟨#[55]⟩, .string ⟨#[48, 48, 55]⟩, .string ⟨#[57, 50, 50, 51, 51, 55, 50, 48, 51, 54, 56, 53, 52, 55, 55, 53, 56, 48, 55]⟩, .string ⟨#[57, 50, 50, 51, 51, 55, 50, 48, 51, 54, 56, 53, 52, 55, 55, 53, 56, 48, 56]⟩, .string ⟨#[49, 48, 48, 48, 48, 48, 48, 48, 48, 48, 48, 48, 48, 48, 48, 48, 48, 48, 48, 48, 48, 48, 48, 48, 48, 48, 48, 48, 48, 48, 48, 48]⟩] 9)) enS 1 (some ⟨w0.heap.size + 1, 0, none⟩) 7 wholL ∧ Below w1.heap.size w1 (w1.alloc (.cells #[.string ⟨#[]⟩, .string ⟨#[48]⟩, .string ⟨#[55]⟩, .string ⟨#[48, 48, 55]⟩, .string ⟨#[57, 50, 50, 51, 51, 55, 50, 48, 51, 54, 56, 53, 52, 55, 55, 53, 56, 48, 55]⟩, .string ⟨#[57, 50, 50, 51, 51, 55, 50, 48, 51, 54, 56, 53, 52, 55, 55, 53, 56, 48, 56]⟩, .string ⟨#[49, 48, 48, 48, 48, 48, 48, 48, 48, 48, 48, 48, 48, 48, 48, 48, 48, 48, 48, 48, 48, 48, 48, 48, 48, 48, 48, 48, 48, 48, 48, 48]⟩] 9)) := ⟨by rw [← HSZ.out]; exact SlOf.lit w1 enS 1 (fun _ => rfl) wholL _ _ 7 rfl rfl (by decide), (Below.refl _ _).alloc (Nat.le_refl _) _⟩
  replace HSZ := Lib.hid (show (w1.alloc (.cells #[.string ⟨#[]⟩, .string ⟨#[48]⟩, .string ⟨#[55]⟩, .string ⟨#[48, 48, 55]⟩, .string ⟨#[57, 50, 50, 51, 51, 55, 50, 48, 51, 54, 56, 53, 52, 55, 55, 53, 56, 48, 55]⟩, .string ⟨#[57, 50, 50, 51, 51, 55, 50, 48, 51, 54, 56, 53, 52, 55, 55, 53, 56, 48, 56]⟩, .string ⟨#[49, 48, 48, 48, 48, 48, 48, 48, 48, 48, 48, 48, 48, 48, 48, 48, 48, 48, 48, 48, 48, 48, 48, 48, 48, 48, 48, 48, 48, 48, 48, 48]⟩] 9)).heap.size = w0.heap.size + 1 + 1 by rw [← HSZ.out]; simp)
  replace HB := Lib.hid (bstep HB.out hb (Nat.le_refl _))
  replace HG := Lib.hid (LaidT.keep HG.out hb)
  replace S0 := Lib.hid (SlOf.keep S0.out hb (Nat.le_refl _))
  have S1 := Lib.hid hA
  clear hb hA
  generalize w1.alloc (.cells #[.string ⟨#[]⟩, .string ⟨#[48]⟩, .string ⟨#[55]⟩, .string ⟨#[48, 48, 55]⟩, .string ⟨#[57, 50, 50, 51, 51, 55, 50, 48, 51, 54, 56, 53, 52, 55, 55, 53, 56, 48, 55]⟩, .string ⟨#[57, 50, 50, 51, 51, 55, 50, 48, 51, 54, 56, 53, 52, 55, 55, 53, 56, 48, 56]⟩, .string ⟨#[49, 48, 48, 48, 48, 48, 48, 48, 48, 48, 48, 48, 48, 48, 48, 48, 48, 48, 48, 48, 48, 48, 48, 48, 48, 48, 48, 48, 48, 48, 48, 48]⟩] 9) = w2 at *
  obtain ⟨hA, hb⟩ : SlOf (w2.alloc (.cells #[.string ⟨#[]⟩, .string ⟨#[46]⟩, .string ⟨#[46, 48]⟩, .string ⟨#[46, 53]⟩, .string ⟨#[46, 49, 50, 53]⟩, .string ⟨#[46, 48, 48, 48, 48, 48, 48, 48, 48, 48, 48, 48, 48, 48, 48, 48, 48, 48, 48, 48, 48, 48, 48, 48, 48, 48, 48, 49]⟩, .string ⟨#[46, 48, 48, 48, 48, 48, 48, 48, 48, 48, 48, 48, 48, 48, 48, 48, 48, 48, 48, 48, 48, 48, 48, 48, 48, 48, 48, 48, 49]⟩, .string ⟨#[46, 51, 51]⟩] 9)) enS 1 (some ⟨w0.heap.size + 1 + 1, 0, none⟩) 8 backL ∧ Below w2.heap.size w2 (w2.alloc (.cells #[.string ⟨#[]⟩, .string ⟨#[46]⟩, .string ⟨#[46, 48]⟩, .string ⟨#[46, 53]⟩, .string ⟨#[46, 49, 50, 53]⟩, .string ⟨#[46, 48, 48, 48, 48, 48, 48, 48, 48, 48, 48, 48, 48, 48, 48, 48, 48, 48, 48, 48, 48, 48, 48, 48, 48, 48, 48, 49]⟩, .string ⟨#[46, 48, 48, 48, 48, 48, 48, 48, 48, 48, 48, 48, 48, 48, 48, 48, 48, 48, 48, 48, 48, 48, 48, 48, 48, 48, 48, 48, 49]⟩, .string ⟨#[46, 51, 51]⟩] 9)) := ⟨by rw [← HSZ.out]; exact SlOf.lit w2 enS 1 (fun _ => rfl) backL _ _ 8 rfl rfl (by decide), (Below.refl _ _).alloc (Nat.le_refl _) _⟩
  replace HSZ := Lib.hid (show (w2.alloc (.cells #[.string ⟨#[]⟩, .string ⟨#[46]⟩, .string ⟨#[46, 48]⟩, .string ⟨#[46, 53]⟩, .string ⟨#[46, 49, 50, 53]⟩, .string ⟨#[46, 48, 48, 48, 48, 48, 48, 48, 48, 48, 48, 48, 48, 48, 48, 48, 48, 48, 48, 48, 48, 48, 48, 48, 48, 48, 48, 49]⟩, .string ⟨#[46, 48, 48, 48, 48, 48, 48, 48, 48, 48, 48, 48, 48, 48, 48, 48, 48, 48, 48, 48, 48, 48, 48, 48, 48, 48, 48, 48, 49]⟩, .string ⟨#[46, 51, 51]⟩] 9)).heap.size = w0.heap.size + 1 + 1 + 1 by rw [← HSZ.out]; simp)
  replace HB := Lib.hid (bstep HB.out hb (Nat.le_refl _))
  replace HG := Lib.hid (LaidT.keep HG.out hb)
  replace S0 := Lib.hid (SlOf.keep S0.out hb (Nat.le_refl _))
  replace S1 := Lib.hid (SlOf.keep S1.out hb (Nat.le_refl _))
  have S2 := Lib.hid hA
  clear hb hA
  generalize w2.alloc (.cells #[.string ⟨#[]⟩, .string ⟨#[46]⟩, .string ⟨#[46, 48]⟩, .string ⟨#[46, 53]⟩, .string ⟨#[46, 49, 50, 53]⟩, .string ⟨#[46, 48, 48, 48, 48, 48, 48, 48, 48, 48, 48, 48, 48, 48, 48, 48, 48, 48, 48, 48, 48, 48, 48, 48, 48, 48, 48, 49]⟩, .string ⟨#[46, 48, 48, 48, 48, 48, 48, 48, 48, 48, 48, 48, 48, 48, 48, 48, 48, 48, 48, 48, 48, 48, 48, 48, 48, 48, 48, 48, 49]⟩, .string ⟨#[46, 51, 51]⟩] 9) = w3 at *
  obtain ⟨hA, hb⟩ : SlOf (w3.alloc (.cells #[.string ⟨#[]⟩, .string ⟨#[101]⟩, .string ⟨#[69, 49]⟩, .string ⟨#[101, 45, 49]⟩, .string ⟨#[101, 43, 50]⟩, .string ⟨#[101, 45]⟩, .string ⟨#[101, 49, 57]⟩, .string ⟨#[101, 45, 50, 55]⟩, .string ⟨#[101, 45, 51, 50]⟩, .string ⟨#[101, 57, 57, 57, 57, 57, 57, 57, 57, 57, 57, 57, 57, 57, 57, 57, 57, 57, 57, 57, 57]⟩, .string ⟨#[101, 45, 57, 57, 57, 57, 57, 57, 57, 57, 57, 57, 57, 57, 57, 57, 57, 57, 57, 57, 57, 57]⟩, .string ⟨#[101, 49, 32]⟩, .string ⟨#[120]⟩] 9)) enS 1 (some ⟨w0.heap.size + 1 + 1 + 1, 0, none⟩) 13 poweL ∧ Below w3.heap.size w3 (w3.alloc (.cells #[.string ⟨#[]⟩, .string ⟨#[101]⟩, .string ⟨#[69, 49]⟩, .string ⟨#[101, 45, 49]⟩, .string ⟨#[101, 43, 50]⟩, .string ⟨#[101, 45]⟩, .string ⟨#[101, 49, 57]⟩, .string ⟨#[101, 45, 50, 55]⟩, .string ⟨#[101, 45, 51, 50]⟩, .string ⟨#[101, 57, 57, 57, 57, 57, 57, 57, 57, 57, 57, 57, 57, 57, 57, 57, 57, 57, 57, 57, 57]⟩, .string ⟨#[101, 45, 57, 57, 57, 57, 57, 57, 57, 57, 57, 57, 57, 57, 57, 57, 57, 57, 57, 57, 57, 57]⟩, .string ⟨#[101, 49, 32]⟩, .string ⟨#[120]⟩] 9)) := ⟨by rw [← HSZ.out]; exact SlOf.lit w3 enS 1 (fun _ => rfl) poweL _ _ 13 rfl rfl (by decide), (Below.refl _ _).alloc (Nat.le_refl _) _⟩
  replace HSZ := Lib.hid (show (w3.alloc (.cells #[.string ⟨#[]⟩, .string ⟨#[101]⟩, .string ⟨#[69, 49]⟩, .string ⟨#[101, 45, 49]⟩, .string ⟨#[101, 43, 50]⟩, .string ⟨#[101, 45]⟩, .string ⟨#[101, 49, 57]⟩, .string ⟨#[101, 45, 50, 55]⟩, .string ⟨#[101, 45, 51, 50]⟩, .string ⟨#[101, 57, 57, 57, 57, 57, 57, 57, 57, 57, 57, 57, 57, 57, 57, 57, 57, 57, 57, 57, 57]⟩, .string ⟨#[101, 45, 57, 57, 57, 57, 57, 57, 57, 57, 57, 57, 57, 57, 57, 57, 57, 57, 57, 57, 57, 57]⟩, .string ⟨#[101, 49, 32]⟩, .string ⟨#[120]⟩] 9)).heap.size = w0.heap.size + 1 + 1 + 1 + 1 by rw [← HSZ.out]; simp)
  replace HB := Lib.hid (bstep HB.out hb (Nat.le_refl _))
  replace HG := Lib.hid (LaidT.keep HG.out hb)
  replace S0 := Lib.hid (SlOf.keep S0.out hb (Nat.le_refl _))
  replace S1 := Lib.hid (SlOf.keep S1.out hb (Nat.le_refl _))
  replace S2 := Lib.hid (SlOf.keep S2.out hb (Nat.le_refl _))
  have S3 := Lib.hid hA
  clear hb hA
  generalize w3.alloc (.cells #[.string ⟨#[]⟩, .string ⟨#[101]⟩, .string ⟨#[69, 49]⟩, .string ⟨#[101, 45, 49]⟩, .string ⟨#[101, 43, 50]⟩, .string ⟨#[101, 45]⟩, .string ⟨#[101, 49, 57]⟩, .string ⟨#[101, 45, 50, 55]⟩, .string ⟨#[101, 45, 51, 50]⟩, .string ⟨#[101, 57, 57, 57, 57, 57, 57, 57, 57, 57, 57, 57, 57, 57, 57, 57, 57, 57, 57, 57, 57]⟩, .string ⟨#[101, 45, 57, 57, 57, 57, 57, 57, 57, 57, 57, 57, 57, 57, 57, 57, 57, 57, 57, 57, 57, 57]⟩, .string ⟨#[101, 49, 32]⟩, .string ⟨#[120]⟩] 9) = w4 at *
  go_loopw [5] (fun x wr => ∃ i : Nat, i ≤ 5 ∧ x = .int .i64 (i : Nat) ∧ Below w4.heap.size w4 wr) (fun x _ => 5 - (intOf x).toNat)
  case atStart => exact ⟨0, by omega, rfl, Below.refl _ _⟩
  case round =>
    obtain ⟨i0, hle0, rfl, hb0⟩ := hrel
    by_cases hI0 : (i0 : Int) < 5
    · have hl0 : i0 < 5 := by omega
      go_wp2_with fail
      go_loopw [6] (fun x wr => ∃ i : Nat, i ≤ 7 ∧ x = .int .i64 (i : Nat) ∧ Below w4.heap.size w4 wr) (fun x _ => 7 - (intOf x).toNat)
      case atStart => exact ⟨0, by omega, rfl, hb0⟩
      case round =>
        clear hb0
        obtain ⟨i1, hle1, rfl, hb1⟩ := hrel
        by_cases hI1 : (i1 : Int) < 7
        · have hl1 : i1 < 7 := by omega
          go_wp2_with fail
          go_loopw [7] (fun x wr => ∃ i : Nat, i ≤ 8 ∧ x = .int .i64 (i : Nat) ∧ Below w4.heap.size w4 wr) (fun x _ => 8 - (intOf x).toNat)
          case atStart => exact ⟨0, by omega, rfl, hb1⟩
          case round =>
            clear hb1
            obtain ⟨i2, hle2, rfl, hb2⟩ := hrel
            by_cases hI2 : (i2 : Int) < 8
            · have hl2 : i2 < 8 := by omega
              go_wp2_with fail
              go_loopw [8] (fun x wr => ∃ i : Nat, i ≤ 13 ∧ x = .int .i64 (i : Nat) ∧ Below w4.heap.size w4 wr) (fun x _ => 13 - (intOf x).toNat)
              case atStart => exact ⟨0, by omega, rfl, hb2⟩
              case round =>
                clear hb2
                obtain ⟨i3, hle3, rfl, hb3⟩ := hrel
                by_cases hI3 : (i3 : Int) < 13
                · have hl3 : i3 < 13 := by omega
                  obtain ⟨v0, hv0⟩ : ∃ x, x = wr := ⟨_, rfl⟩
                  subst hv0
                  obtain ⟨bl, ol, e, hx, hc0⟩ := SlS.at (S0.out.keep hb3 (Nat.le_refl _)) (k := i0) (by simpa [signL] using hl0)
                  cases e
                  rw [Nat.zero_add] at hc0
                  rw [show signL[i0]'(by simpa [signL] using hl0) = signK i0 by simp [signK, List.getD, signL, hl0]] at hc0
                  have hn0 := signK_len i0
                  obtain ⟨bl, ol, e, hx, hc1⟩ := SlS.at (S1.out.keep hb3 (Nat.le_refl _)) (k := i1) (by simpa [wholL] using hl1)
                  cases e
                  rw [Nat.zero_add] at hc1
                  rw [show wholL[i1]'(by simpa [wholL] using hl1) = wholK i1 by simp [wholK, List.getD, wholL, hl1]] at hc1
                  have hn1 := wholK_len i1
                  obtain ⟨bl, ol, e, hx, hc2⟩ := SlS.at (S2.out.keep hb3 (Nat.le_refl _)) (k := i2) (by simpa [backL] using hl2)
                  cases e
                  rw [Nat.zero_add] at hc2
                  rw [show backL[i2]'(by simpa [backL] using hl2) = backK i2 by simp [backK, List.getD, backL, hl2]] at hc2
                  have hn2 := backK_len i2
                  obtain ⟨bl, ol, e, hx, hc3⟩ := SlS.at (S3.out.keep hb3 (Nat.le_refl _)) (k := i3) (by simpa [poweL] using hl3)
                  cases e
                  rw [Nat.zero_add] at hc3
                  rw [show poweL[i3]'(by simpa [poweL] using hl3) = poweK i3 by simp [poweK, List.getD, poweL, hl3]] at hc3
                  have hn3 := poweK_len i3
                  generalize signK i0 = s0 at *
                  generalize wholK i1 = s1 at *
                  generalize backK i2 = s2 at *
                  generalize poweK i3 = s3 at *
                  have KB := Lib.hid hb3
                  have KG := Lib.hid (LaidT.keep HG.out hb3)
                  clear hb3
                  have hla : (s0 ++ (s1 ++ (s2 ++ s3))).length ≤ 9223372036854775807 := by simp only [List.length_append]; omega
                  have cp := fun w hg => ratparses_any (s0 ++ (s1 ++ (s2 ++ s3))) hla w hg
                  clear hla
                  have e1 := strA s0 s1
                  have e2 := strA (s0 ++ s1) s2
                  have e3 : (⟨(s0 ++ (s1 ++ s2)).toArray⟩ : ByteArray) ++ ⟨s3.toArray⟩ = ⟨(s0 ++ (s1 ++ (s2 ++ s3))).toArray⟩ := by rw [strA]; simp only [List.append_assoc]
                  have h1 : ¬ 9223372036854775807 < s0.length + s1.length := by omega
                  have h2 : ¬ 9223372036854775807 < s0.length + s1.length + s2.length := by omega
                  have h3 : ¬ 9223372036854775807 < s0.length + (s1.length + s2.length) + s3.length := by omega
                  have l0 := fun x : Later v0 => Later.cell hc0 x
                  have l1 := fun x : Later v0 => Later.cell hc1 x
                  have l2 := fun x : Later v0 => Later.cell hc2 x
                  have l3 := fun x : Later v0 => Later.cell hc3 x
                  have lp := fun x : Later v0 => cp x.w (LaidT.keep KG.out x.below)
                  go_wp2_with fail
                  refine wp_region_later0 (by kernel_rfl) (by kernel_rfl) ?_
                  repeat (go_big_quiet_step ((go_at_call 3; with_reducible exact Later.made (lp _))))
                  refine wpQuiet_nil ?_
                  rintro _ ⟨x, rfl⟩
                  replace KB := Lib.hid (bstep KB.out x.below (Nat.le_refl _))
                  clear l0 l1 l2 l3 lp
                  generalize x.w = v1 at *
                  go_wp2_with fail
                  go_roundw
                  case rel => exact ⟨i3 + 1, by omega, by first | rfl | go_num, KB.out⟩
                  case measure => (simp [intOf] <;> omega)
                · have hN : i3 = 13 := by omega
                  subst hN
                  go_wp2_with fail
                  go_roundw
                  case rel => exact ⟨i2 + 1, by omega, by first | rfl | go_num, hb3⟩
                  case measure => (simp [intOf] <;> omega)
            · have hN : i2 = 8 := by omega
              subst hN
              go_wp2_with fail
              go_roundw
              case rel => exact ⟨i1 + 1, by omega, by first | rfl | go_num, hb2⟩
              case measure => (simp [intOf] <;> omega)
        · have hN : i1 = 7 := by omega
          subst hN
          go_wp2_with fail
          go_roundw
          case rel => exact ⟨i0 + 1, by omega, by first | rfl | go_num, hb1⟩
          case measure => (simp [intOf] <;> omega)
    · have hb := hb0
      replace HG := Lib.hid (LaidT.keep HG.out hb)
      replace HB := Lib.hid (bstep HB.out hb (Nat.le_refl _))
      clear hb0 S0 S1 S2 S3 hb
      have hN : i0 = 5 := by omega
      subst hN
      obtain ⟨w11, hw⟩ : ∃ x, x = wr := ⟨_, rfl⟩
      subst hw
      go_wp2_with fail
      go_loopw [9, 10] (fun s x wr => ∃ i : Nat, i ≤ 100 ∧ x = .int .i64 (i : Nat) ∧ s = .string ⟨(48 :: 46 :: List.replicate i 48).toArray⟩ ∧ Below w11.heap.size w11 wr) (fun _ x _ => 100 - (intOf x).toNat)
      case atStart => exact ⟨0, by omega, rfl, rfl, Below.refl _ _⟩
      case round =>
        obtain ⟨i, hi, rfl, rfl, hbi⟩ := hrel
        have hlen : (48 :: 46 :: List.replicate i (48 : UInt8)).length = i + 2 := by simp
        have hz : (48 :: 46 :: List.replicate (i + 1) (48 : UInt8)) = (48 :: 46 :: List.replicate i (48 : UInt8)) ++ [48] := by rw [List.replicate_succ']; rfl
        have HZ := Lib.hid hz
        clear hz
        by_cases hI : (i : Int) < 100
        · generalize (48 :: 46 :: List.replicate i (48 : UInt8)) = Z at *
          have KB := Lib.hid hbi
          have KG := Lib.hid (LaidT.keep HG.out hbi)
          have c1 := fun w hg => ratparses_any Z (by omega) w hg
          have c2 := fun w hg => ratparses_any (Z ++ [49]) (by rw [List.length_append, hlen]; simp; omega) w hg
          have c3 := fun w hg => ratparses_any (Z ++ [49, 101, 57, 49]) (by rw [List.length_append, hlen]; simp; omega) w hg
          have e1 : (⟨Z.toArray⟩ : ByteArray) ++ ⟨#[49]⟩ = ⟨(Z ++ [49]).toArray⟩ := strA Z [49]
          have e2 : (⟨Z.toArray⟩ : ByteArray) ++ ⟨#[49, 101, 57, 49]⟩ = ⟨(Z ++ [49, 101, 57, 49]).toArray⟩ := strA Z [49, 101, 57, 49]
          have e3 : (⟨Z.toArray⟩ : ByteArray) ++ ⟨#[48]⟩ = ⟨(Z ++ [48]).toArray⟩ := strA Z [48]
          have h1 : ¬ 9223372036854775807 < Z.length + 1 := by omega
          have h2 : ¬ 9223372036854775807 < Z.length + 4 := by omega
          have HL := Lib.hid hlen
          clear hbi hlen
          go_wp2_with fail
          with_reducible refine (c1 _ KG.out).mono ?_
          rintro e u1 ⟨rfl, hb⟩
          replace KG := Lib.hid (LaidT.keep KG.out hb)
          replace KB := Lib.hid (bstep KB.out hb (Nat.le_refl _))
          clear hb
          go_wp2_with fail
          with_reducible refine (c2 _ KG.out).mono ?_
          rintro e u2 ⟨rfl, hb⟩
          replace KG := Lib.hid (LaidT.keep KG.out hb)
          replace KB := Lib.hid (bstep KB.out hb (Nat.le_refl _))
          clear hb
          go_wp2_with fail
          with_reducible refine (c3 _ KG.out).mono ?_
          rintro e u3 ⟨rfl, hb⟩
          replace KG := Lib.hid (LaidT.keep KG.out hb)
          replace KB := Lib.hid (bstep KB.out hb (Nat.le_refl _))
          clear hb
          go_wp2_with fail
          go_roundw
          case rel => exact ⟨i + 1, by omega, by first | rfl | go_num, by rw [HZ.out], KB.out⟩
          case measure => (simp [intOf] <;> omega)
        · have hb := hbi
          replace HG := Lib.hid (LaidT.keep HG.out hb)
          replace HB := Lib.hid (bstep HB.out hb (Nat.le_refl _))
          clear hbi HZ hlen hb
          have hN : i = 100 := by omega
          subst hN
          obtain ⟨w12, hw⟩ : ∃ x, x = wr := ⟨_, rfl⟩
          subst hw
          go_wp2_with fail
          with_reducible refine (kparse0 _).mono ?_
          rintro e w13 ⟨rfl, hb⟩
          replace HB := Lib.hid (bstep HB.out hb (Nat.le_refl _))
          replace HG := Lib.hid (LaidT.keep HG.out hb)
          clear hb
          obtain ⟨tn, hsz, hb⟩ := box1 w13 #[.int .i64 (-40), .int .i64 1] 23
          clear hsz
          replace HB := Lib.hid (bstep HB.out hb (Nat.le_refl _))
          replace HG := Lib.hid (LaidT.keep HG.out hb)
          have T11 := Lib.hid tn
          clear hb tn
          go_wp2_with fail
          generalize w13.alloc (.cells #[.int .i64 (-40), .int .i64 1] 23) = v14 at *
          with_reducible refine (kparse1 _).mono ?_
          rintro e w14 ⟨rfl, hb⟩
          replace HB := Lib.hid (bstep HB.out hb (Nat.le_refl _))
          replace HG := Lib.hid (LaidT.keep HG.out hb)
          replace T11 := Lib.hid ((T11.out).keep hb (Nat.le_refl _))
          clear hb
          obtain ⟨tn, hsz, hb⟩ := box1 w14 #[.int .i64 15, .int .i64 1] 23
          clear hsz
          replace HB := Lib.hid (bstep HB.out hb (Nat.le_refl _))
          replace HG := Lib.hid (LaidT.keep HG.out hb)
          replace T11 := Lib.hid ((T11.out).keep hb (Nat.le_refl _))
          have T13 := Lib.hid tn
          clear hb tn
          go_wp2_with fail
          generalize w14.alloc (.cells #[.int .i64 15, .int .i64 1] 23) = v15 at *
          with_reducible refine (kparse2 _).mono ?_
          rintro e w15 ⟨rfl, hb⟩
          replace HB := Lib.hid (bstep HB.out hb (Nat.le_refl _))
          replace HG := Lib.hid (LaidT.keep HG.out hb)
          replace T11 := Lib.hid ((T11.out).keep hb (Nat.le_refl _))
          replace T13 := Lib.hid ((T13.out).keep hb (Nat.le_refl _))
          clear hb
          obtain ⟨tn, hsz, hb⟩ := box1 w15 #[.int .i64 0, .int .i64 0] 23
          clear hsz
          replace HB := Lib.hid (bstep HB.out hb (Nat.le_refl _))
          replace HG := Lib.hid (LaidT.keep HG.out hb)
          replace T11 := Lib.hid ((T11.out).keep hb (Nat.le_refl _))
          replace T13 := Lib.hid ((T13.out).keep hb (Nat.le_refl _))
          have T15 := Lib.hid tn
          clear hb tn
          go_wp2_with fail
          generalize w15.alloc (.cells #[.int .i64 0, .int .i64 0] 23) = v16 at *
          with_reducible refine (kparse3 _).mono ?_
          rintro e w16 ⟨rfl, hb⟩
          replace HB := Lib.hid (bstep HB.out hb (Nat.le_refl _))
          replace HG := Lib.hid (LaidT.keep HG.out hb)
          replace T11 := Lib.hid ((T11.out).keep hb (Nat.le_refl _))
          replace T13 := Lib.hid ((T13.out).keep hb (Nat.le_refl _))
          replace T15 := Lib.hid ((T15.out).keep hb (Nat.le_refl _))
          clear hb
          obtain ⟨tn, hsz, hb⟩ := box1 w16 #[.int .i64 0, .int .i64 0] 23
          clear hsz
          replace HB := Lib.hid (bstep HB.out hb (Nat.le_refl _))
          replace HG := Lib.hid (LaidT.keep HG.out hb)
          replace T11 := Lib.hid ((T11.out).keep hb (Nat.le_refl _))
          replace T13 := Lib.hid ((T13.out).keep hb (Nat.le_refl _))
          have T17 := Lib.hid tn
          clear hb tn
          go_wp2_with fail
          generalize w16.alloc (.cells #[.int .i64 0, .int .i64 0] 23) = v17 at *
          obtain ⟨a0, a1, a2, a3⟩ := T11.out.two
          obtain ⟨b0, b1, b2, b3⟩ := T13.out.two
          have l0 := fun x : Later v17 => Later.cell a0 x
          have l1 := fun x : Later v17 => Later.cell a1 x
          have l2 := fun x : Later v17 => Later.cell b0 x
          have l3 := fun x : Later v17 => Later.cell b1 x
          have lf := fun (n d : Int) (x : Later v17) => kfrac_any n d x.w
          have lp8 := fun x : Later v17 => kplain 8 (by decide) (by decide) x.w (LaidT.keep HG.out x.below)
          have lp9 := fun x : Later v17 => kplain 9 (by decide) (by decide) x.w (LaidT.keep HG.out x.below)
          unfold errV at lp8 lp9
          simp only [errV]
          refine wp_region_later0 (by kernel_rfl) (by kernel_rfl) ?_
          repeat (go_big_quiet_step ((first | (go_at_call 38; with_reducible exact Later.made (lf _ _ _)) | (go_at_call 30; first | with_reducible exact Later.made (lp8 _) | with_reducible exact Later.made (lp9 _)))))
          refine wpQuiet_nil ?_
          rintro _ ⟨x, rfl⟩
          have HB5 := Lib.hid (bstep HB.out x.below (Nat.le_refl _))
          generalize x.w = w99 at *
          go_wp2_with fail
          go_ret
          exact ⟨rfl, HB5.out⟩
end Go.Proofs.YtajebceanonalaaGreatDoor
