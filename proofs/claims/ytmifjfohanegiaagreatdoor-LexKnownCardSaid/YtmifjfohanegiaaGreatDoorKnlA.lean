/-
  busbarlaw04's wrong and knownSaid: contracts.
-/
import Derived.Test.YtmifjfohanegiaaGreatDoorLexK
import Derived.Test.YtmifjfohanegiaaGreatDoorAtF
import Derived.Test.YtmifjfohanegiaaGreatDoorRplB
import Derived.Test.YtmifjfohanegiaaGreatDoorCalm
import Derived.BigQuiet
namespace Go.Proofs.YtmifjfohanegiaaGreatDoor
set_option linter.unusedVariables false
open Go.RowKit Go.Shelf

set_option maxRecDepth 100000 in
set_option maxHeartbeats 2000000 in
theorem wrong_any (s : List UInt8) (no L C : Int) (h : scanL s = .bad (faultV no L C)) (hs : s.length ≤ 1000) (h1 : 1 ≤ no) (h2 : no ≤ 26) (w : World) (hT : TabsU w) (hg : LaidT w) :
    Calls Tryz.prog 34 #[.string ⟨s.toArray⟩, .int .i64 no, .int .i64 L, .int .i64 C] w fun e w' => e = .returned (.bool true) ∧ Below w.heap.size w w' := by
  have cs := scan_any s (by omega) w hT
  rw [h] at cs
  have HG := Lib.hid hg
  have cA := fun W hW => at_flt no L C h1 h2 W hW
  clear hT hg h h1 h2
  unfold faultV at *
  go_enter Tryz.func34, Tryz.ntmps34
  go_wp2_with fail
  with_reducible refine cs.mono ?_
  rintro e w1 ⟨rfl, hb⟩
  have HB1 := Lib.hid hb
  have HG1 := Lib.hid (LaidT.keep HG.out hb)
  clear hb cs
  go_wp2_with fail
  with_reducible refine (cA _ HG1.out).mono ?_
  rintro e w2 ⟨rfl, hb⟩
  have HB2 := Lib.hid (bstep HB1.out hb (Nat.le_refl _))
  clear hb cA
  go_wp2_with fail
  go_ret
  exact ⟨rfl, HB2.out⟩

def knS : List UInt8 := [83, 71, 95, 32, 97, 32, 109, 48, 32, 58, 32, 55, 124, 56, 64, 48, 43, 32, 40, 48, 46, 49, 44, 45, 52, 48, 41]
def knT : List TokD := [⟨1, [83, 71, 95], 1, 1⟩, ⟨1, [97], 1, 5⟩, ⟨1, [109, 48], 1, 7⟩, ⟨4, [58], 1, 10⟩, ⟨2, [55], 1, 12⟩, ⟨4, [124], 1, 13⟩, ⟨2, [56], 1, 14⟩, ⟨4, [64, 48, 43], 1, 15⟩, ⟨4, [40], 1, 19⟩, ⟨2, [48, 46, 49], 1, 20⟩, ⟨4, [44], 1, 23⟩, ⟨2, [45, 52, 48], 1, 24⟩, ⟨4, [41], 1, 27⟩, ⟨0, [], 1, 28⟩]
theorem kn_scan : scanL knS = .good knT := by kernel_rfl
theorem kn_line : ∀ k, (h : k < knT.length) → knT[k].line = 1 := by decide
def knS2 : List UInt8 := [34, 97, 92, 34, 98, 34, 120]
def knT2 : List TokD := [⟨3, [97, 34, 98], 1, 1⟩, ⟨1, [120], 1, 7⟩, ⟨0, [], 1, 8⟩]
theorem kn_scan2 : scanL knS2 = .good knT2 := by kernel_rfl
theorem kn_wrong0 : scanL [49, 46] = .bad (faultV 8 1 1) := by kernel_rfl
theorem kn_wrong1 : scanL [97, 32, 46, 53] = .bad (faultV 7 1 3) := by kernel_rfl
theorem kn_wrong2 : scanL [97, 32, 64, 48, 32, 43] = .bad (faultV 7 1 3) := by kernel_rfl
theorem kn_wrong3 : scanL [120, 32, 34, 97, 98] = .bad (faultV 6 1 3) := by kernel_rfl
theorem kn_wrong4 : scanL [195, 169] = .bad (faultV 7 1 1) := by kernel_rfl
theorem kn_wrong5 : scanL [97, 10, 1] = .bad (faultV 6 2 1) := by kernel_rfl

set_option maxRecDepth 100000 in
set_option maxHeartbeats 8000000 in
theorem knownSaid_any (w : World) (hT : TabsU w) (hg : LaidT w) :
    Calls Tryz.prog 16 #[] w fun e w' => e = .returned (.bool true) ∧ Below w.heap.size w w' := by
  have HG := Lib.hid hg
  have HT := Lib.hid hT
  have cs : Calls Tryz.prog 6 #[.string ⟨#[83, 71, 95, 32, 97, 32, 109, 48, 32, 58, 32, 55, 124, 56, 64, 48, 43, 32, 40, 48, 46, 49, 44, 45, 52, 48, 41]⟩] w (RetScan w (.good knT)) := by
    have h := scan_any knS (by decide) w hT
    rw [kn_scan] at h
    exact h
  have cs2 : ∀ W, TabsU W → Calls Tryz.prog 6 #[.string ⟨#[34, 97, 92, 34, 98, 34, 120]⟩] W (RetScan W (.good knT2)) := fun W hW => by
    have h := scan_any knS2 (by decide) W hW
    rw [kn_scan2] at h
    exact h
  have hgt : ∀ k, (h : k < (knT.map fun t => (⟨t.text.toArray⟩ : ByteArray)).length) → (knT.map fun t => (⟨t.text.toArray⟩ : ByteArray))[k] = ⟨(knT[k]'(by simpa using h)).text.toArray⟩ := fun k h => by simp
  have hgc : ∀ k, (h : k < (knT.map fun t => t.col).length) → (knT.map fun t => t.col)[k] = (knT[k]'(by simpa using h)).col := fun k h => by simp
  have HGT := Lib.hid hgt
  have HGC := Lib.hid hgc
  clear hT hg hgt hgc
  go_enter Tryz.func16, Tryz.ntmps16
  go_wp2_with fail
  with_reducible refine cs.mono ?_
  rintro e w1 ⟨a1, c1, rfl, ho, hb⟩
  have hl : knT.length = 14 := rfl
  rw [hl] at ho ⊢
  have HB1 := Lib.hid hb
  have HT1 := Lib.hid (HT.out.keep hb)
  have HG1 := Lib.hid (LaidT.keep HG.out hb)
  have HS1 := Lib.hid ho.sl.2
  clear hb ho cs hl HG HT
  obtain ⟨ba, oa, rfl, hba, -, -, -, -⟩ := tok_at HS1.out (k := 0) (by decide)
  have HX := Lib.hid (SlOf.lit w1 enBs 1 (fun _ => rfl) (knT.map fun t => (⟨t.text.toArray⟩ : ByteArray)) #[.string ⟨#[83, 71, 95]⟩, .string ⟨#[97]⟩, .string ⟨#[109, 48]⟩, .string ⟨#[58]⟩, .string ⟨#[55]⟩, .string ⟨#[124]⟩, .string ⟨#[56]⟩, .string ⟨#[64, 48, 43]⟩, .string ⟨#[40]⟩, .string ⟨#[48, 46, 49]⟩, .string ⟨#[44]⟩, .string ⟨#[45, 52, 48]⟩, .string ⟨#[41]⟩, .string ⟨#[]⟩] 9 14 rfl rfl (by decide))
  have HB2 := Lib.hid ((Below.refl w1.heap.size w1).alloc (Nat.le_refl _) (.cells #[.string ⟨#[83, 71, 95]⟩, .string ⟨#[97]⟩, .string ⟨#[109, 48]⟩, .string ⟨#[58]⟩, .string ⟨#[55]⟩, .string ⟨#[124]⟩, .string ⟨#[56]⟩, .string ⟨#[64, 48, 43]⟩, .string ⟨#[40]⟩, .string ⟨#[48, 46, 49]⟩, .string ⟨#[44]⟩, .string ⟨#[45, 52, 48]⟩, .string ⟨#[41]⟩, .string ⟨#[]⟩] 9))
  have hs2 : (w1.alloc (.cells #[.string ⟨#[83, 71, 95]⟩, .string ⟨#[97]⟩, .string ⟨#[109, 48]⟩, .string ⟨#[58]⟩, .string ⟨#[55]⟩, .string ⟨#[124]⟩, .string ⟨#[56]⟩, .string ⟨#[64, 48, 43]⟩, .string ⟨#[40]⟩, .string ⟨#[48, 46, 49]⟩, .string ⟨#[44]⟩, .string ⟨#[45, 52, 48]⟩, .string ⟨#[41]⟩, .string ⟨#[]⟩] 9)).heap.size = w1.heap.size + 1 := by simp
  have HS2 := Lib.hid hs2
  clear hs2
  obtain ⟨W2, hW2⟩ : ∃ W, W = w1.alloc (.cells #[.string ⟨#[83, 71, 95]⟩, .string ⟨#[97]⟩, .string ⟨#[109, 48]⟩, .string ⟨#[58]⟩, .string ⟨#[55]⟩, .string ⟨#[124]⟩, .string ⟨#[56]⟩, .string ⟨#[64, 48, 43]⟩, .string ⟨#[40]⟩, .string ⟨#[48, 46, 49]⟩, .string ⟨#[44]⟩, .string ⟨#[45, 52, 48]⟩, .string ⟨#[41]⟩, .string ⟨#[]⟩] 9) := ⟨_, rfl⟩
  rw [← hW2] at HX HB2 HS2
  have HY := Lib.hid (SlOf.lit W2 (enInt .i64) 1 (fun _ => rfl) (knT.map fun t => t.col) #[.int .i64 1, .int .i64 5, .int .i64 7, .int .i64 10, .int .i64 12, .int .i64 13, .int .i64 14, .int .i64 15, .int .i64 19, .int .i64 20, .int .i64 23, .int .i64 24, .int .i64 27, .int .i64 28] 3 14 rfl rfl (by decide))
  have HB3 := Lib.hid ((Below.refl W2.heap.size W2).alloc (Nat.le_refl _) (.cells #[.int .i64 1, .int .i64 5, .int .i64 7, .int .i64 10, .int .i64 12, .int .i64 13, .int .i64 14, .int .i64 15, .int .i64 19, .int .i64 20, .int .i64 23, .int .i64 24, .int .i64 27, .int .i64 28] 3))
  have HX3 := Lib.hid (HX.out.keep HB3.out (Nat.le_refl _))
  rw [hW2] at HY HB3 HX3 HB2
  have hss : (w1.alloc (.cells #[.string ⟨#[83, 71, 95]⟩, .string ⟨#[97]⟩, .string ⟨#[109, 48]⟩, .string ⟨#[58]⟩, .string ⟨#[55]⟩, .string ⟨#[124]⟩, .string ⟨#[56]⟩, .string ⟨#[64, 48, 43]⟩, .string ⟨#[40]⟩, .string ⟨#[48, 46, 49]⟩, .string ⟨#[44]⟩, .string ⟨#[45, 52, 48]⟩, .string ⟨#[41]⟩, .string ⟨#[]⟩] 9)).heap.size = w1.heap.size + 1 := by simp
  rw [hss] at HY HB3
  have HS3 := Lib.hid (SlOf.keep (SlOf.keep HS1.out HB2.out (Nat.le_refl _)) HB3.out (by rw [hss]; exact Nat.le_refl _))
  have HBB := Lib.hid (bstep (bstep HB1.out HB2.out (Nat.le_refl _)) (by rw [hss]; exact HB3.out) (Nat.le_refl _))
  have HBz := Lib.hid (show Below w1.heap.size w1 _ from bstep HB2.out (by rw [hss]; exact HB3.out) (Nat.le_refl _))
  clear hss hW2 HS2 HX HB2 HB3
  go_wp2_with fail
  generalize (w1.alloc (.cells #[.string ⟨#[83, 71, 95]⟩, .string ⟨#[97]⟩, .string ⟨#[109, 48]⟩, .string ⟨#[58]⟩, .string ⟨#[55]⟩, .string ⟨#[124]⟩, .string ⟨#[56]⟩, .string ⟨#[64, 48, 43]⟩, .string ⟨#[40]⟩, .string ⟨#[48, 46, 49]⟩, .string ⟨#[44]⟩, .string ⟨#[45, 52, 48]⟩, .string ⟨#[41]⟩, .string ⟨#[]⟩] 9)).alloc (.cells #[.int .i64 1, .int .i64 5, .int .i64 7, .int .i64 10, .int .i64 12, .int .i64 13, .int .i64 14, .int .i64 15, .int .i64 19, .int .i64 20, .int .i64 23, .int .i64 24, .int .i64 27, .int .i64 28] 3) = W3 at *
  go_loopw [5] (fun x wr => ∃ i : Nat, i ≤ 14 ∧ x = .int .i64 i ∧ Below W3.heap.size W3 wr) (fun x _ => 14 - (intOf x).toNat)
  case atStart => exact ⟨0, by omega, rfl, Below.refl _ _⟩
  case round =>
    obtain ⟨i, hi, rfl, hbel⟩ := hrel
    have HBE := Lib.hid hbel
    clear hbel
    by_cases hlt : i < 14
    · have hlt' : i < knT.length := hlt
      obtain ⟨b', o', he, -, -, c1, c2, c3⟩ := tok_at (SlOf.keep HS3.out HBE.out (Nat.le_refl _)) hlt'
      cases he
      rw [kn_line i hlt'] at c2
      obtain ⟨b', o', he, -, d1⟩ := SlOf.cell1 (SlOf.keep HX3.out HBE.out (Nat.le_refl _)) (fun x : ByteArray => .string x) (fun _ => rfl) (k := i) (by simpa using hlt')
      cases he
      obtain ⟨b', o', he, -, d2⟩ := SlOf.cell1 (SlOf.keep HY.out HBE.out (Nat.le_refl _)) (fun x : Int => .int .i64 x) (fun _ => rfl) (k := i) (by simpa using hlt')
      cases he
      rw [HGT.out, Nat.zero_add] at d1
      rw [HGC.out, Nat.zero_add] at d2
      generalize knT[i].col = x3 at *
      generalize (⟨knT[i].text.toArray⟩ : ByteArray) = x1 at *
      clear hlt'
      go_wp2_with fail
      go_quiet (fail)
      go_wp2_with fail
      go_roundw
      case rel => exact ⟨i + 1, by omega, by go_num, Go.below_drewN HBE.out _⟩
      case measure => simp [intOf]; omega
    · have : i = 14 := by omega
      subst this
      have HT4 := Lib.hid (HT1.out.keep (HBz.out.trans (HBE.out.mono HBz.out.size)))
      have HG4 := Lib.hid (LaidT.keep (LaidT.keep HG1.out HBz.out) HBE.out)
      have HB4 := Lib.hid (bstep HBB.out HBE.out (Nat.le_refl _))
      clear HS3 HX3 HY HBB HBz HBE HT1 HG1
      go_wp2_with fail
      with_reducible refine (cs2 _ HT4.out).mono ?_
      rintro e w5 ⟨a5, c5, rfl, ho, hb⟩
      have hl : knT2.length = 3 := rfl
      rw [hl] at ho ⊢
      have HB5 := Lib.hid (bstep HB4.out hb (Nat.le_refl _))
      have HT5 := Lib.hid (HT4.out.keep hb)
      have HG5 := Lib.hid (LaidT.keep HG4.out hb)
      obtain ⟨b5, o5, rfl, -, q0, q1, -, -⟩ := tok_at ho.sl.2 (k := 0) (by decide)
      obtain ⟨b', o', he, -, -, -, -, q2⟩ := tok_at ho.sl.2 (k := 1) (by decide)
      cases he
      replace q0 : w5.cell? ⟨b5, o5, none⟩ = some (.int .i64 3) := by simpa [knT2] using q0
      replace q1 : w5.cell? ⟨b5, o5 + 1, none⟩ = some (.string ⟨#[97, 34, 98]⟩) := by simpa [knT2] using q1
      replace q2 : w5.cell? ⟨b5, o5 + 7, none⟩ = some (.int .i64 7) := by simpa [knT2, Nat.add_assoc] using q2
      have hcap := ho.sl.2.le
      clear hb ho cs2 hl HT4 HG4 HB4
      go_wp2_with fail
      with_reducible refine (works_any _ HT5.out).mono ?_
      rintro e w6 ⟨rfl, hb⟩
      have HB6 := Lib.hid (bstep HB5.out hb (Nat.le_refl _))
      have HT6 := Lib.hid (HT5.out.keep hb)
      have HG6 := Lib.hid (LaidT.keep HG5.out hb)
      clear hb q0 q1 q2
      have cw : ∀ W, TabsU W → LaidT W → Calls Tryz.prog 34 #[.string ⟨#[49, 46]⟩, .int .i64 8, .int .i64 1, .int .i64 1] W fun e w' => e = .returned (.bool true) ∧ Below W.heap.size W w' := fun W h1 h2 => wrong_any _ _ _ _ kn_wrong0 (by decide) (by decide) (by decide) W h1 h2
      go_wp2_with fail
      with_reducible refine (cw _ HT6.out HG6.out).mono ?_
      rintro e w7 ⟨rfl, hb⟩
      have HB7 := Lib.hid (bstep HB6.out hb (Nat.le_refl _))
      have HT7 := Lib.hid (HT6.out.keep hb)
      have HG7 := Lib.hid (LaidT.keep HG6.out hb)
      clear hb cw
      have cw : ∀ W, TabsU W → LaidT W → Calls Tryz.prog 34 #[.string ⟨#[97, 32, 46, 53]⟩, .int .i64 7, .int .i64 1, .int .i64 3] W fun e w' => e = .returned (.bool true) ∧ Below W.heap.size W w' := fun W h1 h2 => wrong_any _ _ _ _ kn_wrong1 (by decide) (by decide) (by decide) W h1 h2
      go_wp2_with fail
      with_reducible refine (cw _ HT7.out HG7.out).mono ?_
      rintro e w8 ⟨rfl, hb⟩
      have HB8 := Lib.hid (bstep HB7.out hb (Nat.le_refl _))
      have HT8 := Lib.hid (HT7.out.keep hb)
      have HG8 := Lib.hid (LaidT.keep HG7.out hb)
      clear hb cw
      have cw : ∀ W, TabsU W → LaidT W → Calls Tryz.prog 34 #[.string ⟨#[97, 32, 64, 48, 32, 43]⟩, .int .i64 7, .int .i64 1, .int .i64 3] W fun e w' => e = .returned (.bool true) ∧ Below W.heap.size W w' := fun W h1 h2 => wrong_any _ _ _ _ kn_wrong2 (by decide) (by decide) (by decide) W h1 h2
      go_wp2_with fail
      with_reducible refine (cw _ HT8.out HG8.out).mono ?_
      rintro e w9 ⟨rfl, hb⟩
      have HB9 := Lib.hid (bstep HB8.out hb (Nat.le_refl _))
      have HT9 := Lib.hid (HT8.out.keep hb)
      have HG9 := Lib.hid (LaidT.keep HG8.out hb)
      clear hb cw
      have cw : ∀ W, TabsU W → LaidT W → Calls Tryz.prog 34 #[.string ⟨#[120, 32, 34, 97, 98]⟩, .int .i64 6, .int .i64 1, .int .i64 3] W fun e w' => e = .returned (.bool true) ∧ Below W.heap.size W w' := fun W h1 h2 => wrong_any _ _ _ _ kn_wrong3 (by decide) (by decide) (by decide) W h1 h2
      go_wp2_with fail
      with_reducible refine (cw _ HT9.out HG9.out).mono ?_
      rintro e w10 ⟨rfl, hb⟩
      have HB10 := Lib.hid (bstep HB9.out hb (Nat.le_refl _))
      have HT10 := Lib.hid (HT9.out.keep hb)
      have HG10 := Lib.hid (LaidT.keep HG9.out hb)
      clear hb cw
      have cw : ∀ W, TabsU W → LaidT W → Calls Tryz.prog 34 #[.string ⟨#[195, 169]⟩, .int .i64 7, .int .i64 1, .int .i64 1] W fun e w' => e = .returned (.bool true) ∧ Below W.heap.size W w' := fun W h1 h2 => wrong_any _ _ _ _ kn_wrong4 (by decide) (by decide) (by decide) W h1 h2
      go_wp2_with fail
      with_reducible refine (cw _ HT10.out HG10.out).mono ?_
      rintro e w11 ⟨rfl, hb⟩
      have HB11 := Lib.hid (bstep HB10.out hb (Nat.le_refl _))
      have HT11 := Lib.hid (HT10.out.keep hb)
      have HG11 := Lib.hid (LaidT.keep HG10.out hb)
      clear hb cw
      have cw : ∀ W, TabsU W → LaidT W → Calls Tryz.prog 34 #[.string ⟨#[97, 10, 1]⟩, .int .i64 6, .int .i64 2, .int .i64 1] W fun e w' => e = .returned (.bool true) ∧ Below W.heap.size W w' := fun W h1 h2 => wrong_any _ _ _ _ kn_wrong5 (by decide) (by decide) (by decide) W h1 h2
      go_wp2_with fail
      with_reducible refine (cw _ HT11.out HG11.out).mono ?_
      rintro e w12 ⟨rfl, hb⟩
      have HB12 := Lib.hid (bstep HB11.out hb (Nat.le_refl _))
      have HT12 := Lib.hid (HT11.out.keep hb)
      have HG12 := Lib.hid (LaidT.keep HG11.out hb)
      clear hb cw
      go_wp2_with fail
      go_ret
      exact ⟨rfl, HB12.out⟩
end Go.Proofs.YtmifjfohanegiaaGreatDoor
