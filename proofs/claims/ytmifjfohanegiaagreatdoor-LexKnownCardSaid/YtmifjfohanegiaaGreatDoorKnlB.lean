/-
  busbarlaw04's knownRows: contract.
-/
import Derived.Test.YtmifjfohanegiaaGreatDoorLexT
import Derived.Test.YtmifjfohanegiaaGreatDoorPlcW
import Derived.Test.YtmifjfohanegiaaGreatDoorLexN
import Derived.Test.YtmifjfohanegiaaGreatDoorBlaW
import Derived.Test.YtmifjfohanegiaaGreatDoorBaseC
import Derived.BigQuiet
namespace Go.Proofs.YtmifjfohanegiaaGreatDoor
set_option linter.unusedVariables false
open Go.RowKit Go.Shelf

def asL (x : ByteArray) : List UInt8 := x.data.toList
theorem asL_eq (x : ByteArray) : x = ⟨(asL x).toArray⟩ := by cases x; simp [asL]
def knL : List ByteArray := [⟨#[97]⟩, ⟨#[95]⟩, ⟨#[48]⟩, ⟨#[55]⟩, ⟨#[46]⟩, ⟨#[101]⟩, ⟨#[43]⟩, ⟨#[45]⟩, ⟨#[34]⟩, ⟨#[92]⟩, ⟨#[64]⟩, ⟨#[64, 48]⟩, ⟨#[58]⟩, ⟨#[32]⟩, ⟨#[10]⟩, ⟨#[195, 169]⟩, ⟨#[44]⟩, ⟨#[124]⟩, ⟨#[69]⟩]
theorem knL_le : ∀ k, (h : k < knL.length) → (asL knL[k]).length ≤ 12 := by decide
def knW : List ByteArray := [⟨#[]⟩, ⟨#[49, 46, 53, 101, 51]⟩, ⟨#[49, 101, 43, 53, 120]⟩, ⟨#[49, 101, 45]⟩, ⟨#[43, 49, 46, 53, 46]⟩, ⟨#[64, 49, 43, 64, 48, 45, 49]⟩, ⟨#[64, 50, 43]⟩, ⟨#[64, 49]⟩, ⟨#[64, 49, 42]⟩, ⟨#[109, 48, 120]⟩, ⟨#[34, 34]⟩, ⟨#[34, 97, 92, 110, 98, 34]⟩, ⟨#[34, 97, 9, 98, 34]⟩, ⟨#[34, 97, 10, 98, 34]⟩, ⟨#[34, 92, 92, 34]⟩, ⟨#[34, 92, 34]⟩, ⟨#[34, 195, 169, 34, 120]⟩, ⟨#[34, 255, 34]⟩, ⟨#[120, 127]⟩, ⟨#[13, 10]⟩, ⟨#[91, 48, 124, 48, 93, 34, 34, 65, 44, 66, 59]⟩]
theorem knW_le : ∀ k, (h : k < knW.length) → (asL knW[k]).length ≤ 12 := by decide
theorem kn_cell {w W : World} {g n : Nat} {l : List ByteArray} (hs : SlOf w enBs 1 (some ⟨g, 0, none⟩) n l) (hb : Below w.heap.size w W) (k : Nat) (hk : k < l.length) : W.cell? ⟨g, k, none⟩ = some (.string ⟨(asL l[k]).toArray⟩) := by
  obtain ⟨b, o, e, -, h⟩ := SlOf.cell1 (hs.keep hb (Nat.le_refl _)) (fun x : ByteArray => .string x) (fun _ => rfl) (k := k) hk
  cases e
  rw [Nat.zero_add] at h
  rw [h, ← asL_eq]

set_option maxRecDepth 100000 in
set_option maxHeartbeats 16000000 in
theorem knownRows_any (w : World) (hT : TabsU w) (hg : LaidT w) :
    Calls Tryz.prog 17 #[] w fun e w' => e = .returned (.bool true) ∧ Below w.heap.size w w' := by
  have HS0 := Lib.hid (SlOf.lit w enBs 1 (fun _ => rfl) knL #[.string ⟨#[97]⟩, .string ⟨#[95]⟩, .string ⟨#[48]⟩, .string ⟨#[55]⟩, .string ⟨#[46]⟩, .string ⟨#[101]⟩, .string ⟨#[43]⟩, .string ⟨#[45]⟩, .string ⟨#[34]⟩, .string ⟨#[92]⟩, .string ⟨#[64]⟩, .string ⟨#[64, 48]⟩, .string ⟨#[58]⟩, .string ⟨#[32]⟩, .string ⟨#[10]⟩, .string ⟨#[195, 169]⟩, .string ⟨#[44]⟩, .string ⟨#[124]⟩, .string ⟨#[69]⟩] 9 19 rfl rfl (by decide))
  have HB0 := Lib.hid ((Below.refl w.heap.size w).alloc (Nat.le_refl _) (.cells #[.string ⟨#[97]⟩, .string ⟨#[95]⟩, .string ⟨#[48]⟩, .string ⟨#[55]⟩, .string ⟨#[46]⟩, .string ⟨#[101]⟩, .string ⟨#[43]⟩, .string ⟨#[45]⟩, .string ⟨#[34]⟩, .string ⟨#[92]⟩, .string ⟨#[64]⟩, .string ⟨#[64, 48]⟩, .string ⟨#[58]⟩, .string ⟨#[32]⟩, .string ⟨#[10]⟩, .string ⟨#[195, 169]⟩, .string ⟨#[44]⟩, .string ⟨#[124]⟩, .string ⟨#[69]⟩] 9))
  have HT := Lib.hid (hT.keep HB0.out)
  have HG := Lib.hid (LaidT.keep hg HB0.out)
  clear hT hg
  go_enter Tryz.func17, Tryz.ntmps17
  go_wp2_with fail
  generalize w.alloc (.cells #[.string ⟨#[97]⟩, .string ⟨#[95]⟩, .string ⟨#[48]⟩, .string ⟨#[55]⟩, .string ⟨#[46]⟩, .string ⟨#[101]⟩, .string ⟨#[43]⟩, .string ⟨#[45]⟩, .string ⟨#[34]⟩, .string ⟨#[92]⟩, .string ⟨#[64]⟩, .string ⟨#[64, 48]⟩, .string ⟨#[58]⟩, .string ⟨#[32]⟩, .string ⟨#[10]⟩, .string ⟨#[195, 169]⟩, .string ⟨#[44]⟩, .string ⟨#[124]⟩, .string ⟨#[69]⟩] 9) = w1 at *
  obtain ⟨g, hg⟩ : ∃ g, g = w.heap.size := ⟨_, rfl⟩
  rw [← hg] at HS0 ⊢
  clear hg
  go_loopw [2] (fun x wr => ∃ i : Nat, i ≤ 19 ∧ x = .int .i64 i ∧ Below w1.heap.size w1 wr) (fun x _ => 19 - (intOf x).toNat)
  case atStart => exact ⟨0, by omega, rfl, Below.refl _ _⟩
  case round =>
    obtain ⟨i, hi, rfl, hbel⟩ := hrel
    have HB1 := Lib.hid hbel
    clear hbel
    obtain ⟨wa, hwa⟩ : ∃ x, x = wr := ⟨_, rfl⟩
    subst hwa
    by_cases hlt : i < 19
    · have hlB : decide ((i : Int) < 19) = true := decide_eq_true (by omega)
      go_wp2_with fail
      clear hlB
      have hiI : (i : Int) < 19 := by omega
      go_loopw [3] (fun x wr => ∃ k : Nat, k ≤ 19 ∧ x = .int .i64 k ∧ Below w1.heap.size w1 wr) (fun x _ => 19 - (intOf x).toNat)
      case atStart => exact ⟨0, by omega, rfl, HB1.out⟩
      case round =>
        clear HB1
        obtain ⟨k, hk, rfl, hbel⟩ := hrel
        have HB1 := Lib.hid hbel
        clear hbel
        obtain ⟨wb, hwb⟩ : ∃ x, x = wr := ⟨_, rfl⟩
        subst hwb
        by_cases hkt : k < 19
        · have hlB : decide ((k : Int) < 19) = true := decide_eq_true (by omega)
          go_wp2_with fail
          clear hlB
          have hkI : (k : Int) < 19 := by omega
          go_loopw [4] (fun x wr => ∃ n : Nat, n ≤ 19 ∧ x = .int .i64 n ∧ Below w1.heap.size w1 wr) (fun x _ => 19 - (intOf x).toNat)
          case atStart => exact ⟨0, by omega, rfl, HB1.out⟩
          case round =>
            clear HB1
            obtain ⟨n, hn, rfl, hbel⟩ := hrel
            have HB1 := Lib.hid hbel
            clear hbel
            by_cases hnt : n < 19
            · have ci := kn_cell HS0.out HB1.out i hlt
              have ck := kn_cell HS0.out HB1.out k hkt
              have cn := kn_cell HS0.out HB1.out n hnt
              have li := knL_le i hlt
              have lk := knL_le k hkt
              have ln := knL_le n hnt
              have hmt : (i + k + n) % 19 < knL.length := Nat.mod_lt _ (by decide)
              have HCM := Lib.hid (fun W (h : Below w1.heap.size w1 W) => kn_cell HS0.out h ((i + k + n) % 19) hmt)
              have lm := knL_le _ hmt
              generalize asL knL[(i + k + n) % 19] = u at *
              generalize asL knL[i] = x at *
              generalize asL knL[k] = y at *
              generalize asL knL[n] = z at *
              have ha1 := strs_appQ x y
              have hl1 : (x ++ y).length = x.length + y.length := List.length_append
              generalize x ++ y = X1 at *
              have ha2 := strs_appQ X1 z
              have hl2 : (X1 ++ z).length = X1.length + z.length := List.length_append
              generalize X1 ++ z = X2 at *
              have ha3 := strs_appQ X2 u
              have hl3 : (X2 ++ u).length = X2.length + u.length := List.length_append
              generalize X2 ++ u = X3 at *
              have n1 : ¬ (9223372036854775807 < x.length + y.length) := by omega
              have n2 : ¬ (9223372036854775807 < X1.length + z.length) := by omega
              have n3 : ¬ (9223372036854775807 < X2.length + u.length) := by omega
              have b2 : X2.length ≤ 9223372036854775807 := by omega
              have b3 : X3.length ≤ 9223372036854775807 := by omega
              have cS2 := fun W h1 h2 => lexscans_any X2 b2 W h1 h2
              have cS3 := fun W h1 h2 => lexscans_any X3 b3 W h1 h2
              have cP2 := fun W h1 h2 => places_any X2 b2 W h1 h2
              have hm1 : 0 ≤ ((i : Int) + k + n) % 19 := by omega
              have hm2 : ((i : Int) + k + n) % 19 < 19 := by omega
              have hm3 : (((i : Int) + k + n) % 19).toNat = (i + k + n) % 19 := by omega
              clear hl1 hl2 hl3 li lk ln lm hmt
              have HM := Lib.hid (And.intro hm1 (And.intro hm2 hm3))
              clear hm1 hm2 hm3
              go_wp2_with fail
              go_quiet (fail)
              go_wp2_with fail
              have HB2 := fun q => Go.below_drewN (Below.refl wr.heap.size wr) q
              with_reducible refine (cS2 _ (HT.out.keep (HB1.out.trans ((HB2 _).mono HB1.out.size))) (LaidT.keep HG.out (HB1.out.trans ((HB2 _).mono HB1.out.size)))).mono ?_
              rintro e w3 ⟨rfl, hb⟩
              have HB3 := Lib.hid (bstep (HB1.out.trans ((HB2 _).mono HB1.out.size)) hb (Nat.le_refl _))
              have cm := HCM.out _ HB3.out
              obtain ⟨hm1, hm2, hm3⟩ := HM.out
              clear hb HB2 cS2 ci ck cn
              go_wp2_with fail
              with_reducible refine (cS3 _ (HT.out.keep HB3.out) (LaidT.keep HG.out HB3.out)).mono ?_
              rintro e w4 ⟨rfl, hb⟩
              have HB4 := Lib.hid (bstep HB3.out hb (Nat.le_refl _))
              clear hb cS3 cm hm1 hm2 hm3
              go_wp2_with fail
              with_reducible refine (cP2 _ (HT.out.keep HB4.out) (LaidT.keep HG.out HB4.out)).mono ?_
              rintro e w5 ⟨rfl, hb⟩
              have HB5 := Lib.hid (bstep HB4.out hb (Nat.le_refl _))
              clear hb cP2
              go_wp2_with fail
              go_roundw
              case rel => first | exact ⟨n + 1, by omega, by go_num, HB5.out⟩ | ((repeat apply Exists.intro); exact ⟨⟨n + 1, by omega, by go_num, HB5.out⟩, rfl⟩)
              case measure => simp [intOf]; omega
            · have : n = 19 := by omega
              subst this
              go_wp2_with fail
              go_roundw
              case rel => exact ⟨k + 1, by omega, by go_num, HB1.out⟩
              case measure => simp [intOf]; omega
        · have : k = 19 := by omega
          subst this
          go_wp2_with fail
          go_roundw
          case rel => exact ⟨i + 1, by omega, by go_num, HB1.out⟩
          case measure => simp [intOf]; omega
    · have : i = 19 := by omega
      subst this
      rw [show ((19 : Nat) : Int) = 19 from rfl]
      have HT1 := Lib.hid (HT.out.keep HB1.out)
      have HG1 := Lib.hid (LaidT.keep HG.out HB1.out)
      have HW1 := Lib.hid (bstep HB0.out HB1.out (Nat.le_refl _))
      clear HT HG HB0 HB1 HS0
      have HS0 := Lib.hid (SlOf.lit wa enBs 1 (fun _ => rfl) knW #[.string ⟨#[]⟩, .string ⟨#[49, 46, 53, 101, 51]⟩, .string ⟨#[49, 101, 43, 53, 120]⟩, .string ⟨#[49, 101, 45]⟩, .string ⟨#[43, 49, 46, 53, 46]⟩, .string ⟨#[64, 49, 43, 64, 48, 45, 49]⟩, .string ⟨#[64, 50, 43]⟩, .string ⟨#[64, 49]⟩, .string ⟨#[64, 49, 42]⟩, .string ⟨#[109, 48, 120]⟩, .string ⟨#[34, 34]⟩, .string ⟨#[34, 97, 92, 110, 98, 34]⟩, .string ⟨#[34, 97, 9, 98, 34]⟩, .string ⟨#[34, 97, 10, 98, 34]⟩, .string ⟨#[34, 92, 92, 34]⟩, .string ⟨#[34, 92, 34]⟩, .string ⟨#[34, 195, 169, 34, 120]⟩, .string ⟨#[34, 255, 34]⟩, .string ⟨#[120, 127]⟩, .string ⟨#[13, 10]⟩, .string ⟨#[91, 48, 124, 48, 93, 34, 34, 65, 44, 66, 59]⟩] 9 21 rfl rfl (by decide))
      have HB0 := Lib.hid ((Below.refl wa.heap.size wa).alloc (Nat.le_refl _) (.cells #[.string ⟨#[]⟩, .string ⟨#[49, 46, 53, 101, 51]⟩, .string ⟨#[49, 101, 43, 53, 120]⟩, .string ⟨#[49, 101, 45]⟩, .string ⟨#[43, 49, 46, 53, 46]⟩, .string ⟨#[64, 49, 43, 64, 48, 45, 49]⟩, .string ⟨#[64, 50, 43]⟩, .string ⟨#[64, 49]⟩, .string ⟨#[64, 49, 42]⟩, .string ⟨#[109, 48, 120]⟩, .string ⟨#[34, 34]⟩, .string ⟨#[34, 97, 92, 110, 98, 34]⟩, .string ⟨#[34, 97, 9, 98, 34]⟩, .string ⟨#[34, 97, 10, 98, 34]⟩, .string ⟨#[34, 92, 92, 34]⟩, .string ⟨#[34, 92, 34]⟩, .string ⟨#[34, 195, 169, 34, 120]⟩, .string ⟨#[34, 255, 34]⟩, .string ⟨#[120, 127]⟩, .string ⟨#[13, 10]⟩, .string ⟨#[91, 48, 124, 48, 93, 34, 34, 65, 44, 66, 59]⟩] 9))
      have HT := Lib.hid (HT1.out.keep HB0.out)
      have HG := Lib.hid (LaidT.keep HG1.out HB0.out)
      have HW2 := Lib.hid (bstep HW1.out HB0.out (Nat.le_refl _))
      go_wp2_with fail
      generalize wa.alloc (.cells #[.string ⟨#[]⟩, .string ⟨#[49, 46, 53, 101, 51]⟩, .string ⟨#[49, 101, 43, 53, 120]⟩, .string ⟨#[49, 101, 45]⟩, .string ⟨#[43, 49, 46, 53, 46]⟩, .string ⟨#[64, 49, 43, 64, 48, 45, 49]⟩, .string ⟨#[64, 50, 43]⟩, .string ⟨#[64, 49]⟩, .string ⟨#[64, 49, 42]⟩, .string ⟨#[109, 48, 120]⟩, .string ⟨#[34, 34]⟩, .string ⟨#[34, 97, 92, 110, 98, 34]⟩, .string ⟨#[34, 97, 9, 98, 34]⟩, .string ⟨#[34, 97, 10, 98, 34]⟩, .string ⟨#[34, 92, 92, 34]⟩, .string ⟨#[34, 92, 34]⟩, .string ⟨#[34, 195, 169, 34, 120]⟩, .string ⟨#[34, 255, 34]⟩, .string ⟨#[120, 127]⟩, .string ⟨#[13, 10]⟩, .string ⟨#[91, 48, 124, 48, 93, 34, 34, 65, 44, 66, 59]⟩] 9) = w2 at *
      obtain ⟨g2, hg2⟩ : ∃ g, g = wa.heap.size := ⟨_, rfl⟩
      rw [← hg2] at HS0 ⊢
      clear hg2 HT1 HG1 HW1 HB0
      go_loopw [7] (fun x wr => ∃ i : Nat, i ≤ 21 ∧ x = .int .i64 i ∧ Below w2.heap.size w2 wr) (fun x _ => 21 - (intOf x).toNat)
      case atStart => exact ⟨0, by omega, rfl, Below.refl _ _⟩
      case round =>
        obtain ⟨i, hi, rfl, hbel⟩ := hrel
        have HB1 := Lib.hid hbel
        clear hbel
        obtain ⟨wb, hwb⟩ : ∃ x, x = wr := ⟨_, rfl⟩
        subst hwb
        by_cases hlt : i < 21
        · have hlB : decide ((i : Int) < 21) = true := decide_eq_true (by omega)
          go_wp2_with fail
          clear hlB
          have hiI : (i : Int) < 21 := by omega
          go_loopw [8] (fun x wr => ∃ k : Nat, k ≤ 21 ∧ x = .int .i64 k ∧ Below w2.heap.size w2 wr) (fun x _ => 21 - (intOf x).toNat)
          case atStart => exact ⟨0, by omega, rfl, HB1.out⟩
          case round =>
            clear HB1
            obtain ⟨k, hk, rfl, hbel⟩ := hrel
            have HB1 := Lib.hid hbel
            clear hbel
            by_cases hkt : k < 21
            · have ci := kn_cell HS0.out HB1.out i hlt
              have ck := kn_cell HS0.out HB1.out k hkt
              have li := knW_le i hlt
              have lk := knW_le k hkt
              generalize asL knW[i] = x at *
              generalize asL knW[k] = y at *
              have ha1 := strs_appQ x y
              have hl1 : (x ++ y).length = x.length + y.length := List.length_append
              generalize x ++ y = X1 at *
              have ha4 : (⟨x.toArray⟩ : ByteArray) ++ ⟨#[32]⟩ = ⟨(x ++ [32]).toArray⟩ := strs_appQ x [32]
              have hl4 : (x ++ [32]).length = x.length + 1 := by rw [List.length_append]; rfl
              generalize x ++ [32] = X4 at *
              have ha5 := strs_appQ X4 y
              have hl5 : (X4 ++ y).length = X4.length + y.length := List.length_append
              generalize X4 ++ y = X5 at *
              have n1 : ¬ (9223372036854775807 < x.length + y.length) := by omega
              have n4 : ¬ (9223372036854775807 < x.length + 1) := by omega
              have n5 : ¬ (9223372036854775807 < X4.length + y.length) := by omega
              have b1 : X1.length ≤ 9223372036854775807 := by omega
              have b5 : X5.length ≤ 9223372036854775807 := by omega
              have bx : x.length ≤ 9223372036854775807 := by omega
              have by' : y.length ≤ 9223372036854775807 := by omega
              have HC1 := Lib.hid (fun W (h : Below wr.heap.size wr W) => lexscans_any X1 b1 W (HT.out.keep (HB1.out.trans (h.mono HB1.out.size))) (LaidT.keep HG.out (HB1.out.trans (h.mono HB1.out.size))))
              have HC2 := Lib.hid (fun W (h : Below wr.heap.size wr W) => lines_any x y bx by' W (HT.out.keep (HB1.out.trans (h.mono HB1.out.size))))
              have HC3 := Lib.hid (fun W (h : Below wr.heap.size wr W) => (show Calls Tryz.prog 3 #[.string ⟨X5.toArray⟩, .slice (some ⟨W.heap.size, 0, none⟩) 3 3] (W.alloc (.cells #[.int .i64 (i : Int), .int .i64 (k : Int), .int .i64 ((i : Int) + (k : Int))] 3)) (fun e w' => e = .returned (.bool true) ∧ Below (W.alloc (.cells #[.int .i64 (i : Int), .int .i64 (k : Int), .int .i64 ((i : Int) + (k : Int))] 3)).heap.size (W.alloc (.cells #[.int .i64 (i : Int), .int .i64 (k : Int), .int .i64 ((i : Int) + (k : Int))] 3)) w') from
                lexblanks_any X5 b5 [(i : Int), (k : Int), (i : Int) + (k : Int)] (some ⟨W.heap.size, 0, none⟩) 3 _ (SlOf.lit W (enInt .i64) 1 (fun _ => rfl) [(i : Int), (k : Int), (i : Int) + (k : Int)] #[.int .i64 (i : Int), .int .i64 (k : Int), .int .i64 ((i : Int) + (k : Int))] 3 3 rfl rfl (by decide)) (fun x hx => by
                  simp only [List.mem_cons, List.not_mem_nil, or_false] at hx
                  rcases hx with rfl | rfl | rfl <;> omega) ((HT.out.keep (HB1.out.trans (h.mono HB1.out.size))).keep ((Below.refl _ _).alloc (Nat.le_refl _) _))))
              have hwk : IntKind.i64.wrap ((i : Int) + (k : Int)) = (i : Int) + (k : Int) := by unfold IntKind.wrap; simp [IntKind.bits, IntKind.signed]; omega
              clear hl1 hl4 hl5 li lk b1 b5 bx by'
              go_wp2_with fail
              refine wp_region_held_drew (S := (fun (w' : World) => Below wr.heap.size wr w' ∧ w'.cell? ⟨g2, i, none⟩ = some (.string ⟨x.toArray⟩) ∧ w'.cell? ⟨g2, k, none⟩ = some (.string ⟨y.toArray⟩))) (by kernel_rfl) ⟨(Below.refl _ _).drew, ci, ck⟩ (fun hHeld => ?_)
              refine held_take 0 (v := ?_) rfl (by kernel_rfl) (by kernel_rfl) (by kernel_rfl) (fun _ _ _ h => h) (by assumption) ?_ ?_
              rotate_left
              · first | (refine Or.inr ⟨?_, ?_⟩ <;> rfl) | (refine Or.inl ⟨by rfl, ?_⟩; intro w hSw; (try dsimp only at hSw); first | (go_simp; done) | (go_simp; with_reducible rfl))
              try simp only [Act.put, List.setIfInBounds_toArray, List.set_cons_zero, List.set_cons_succ]
              refine held_take 1 (v := ?_) rfl (by kernel_rfl) (by kernel_rfl) (by kernel_rfl) (fun _ _ _ h => h) (by assumption) ?_ ?_
              rotate_left
              · first | (refine Or.inr ⟨?_, ?_⟩ <;> rfl) | (refine Or.inl ⟨by rfl, ?_⟩; intro w hSw; (try dsimp only at hSw); first | (go_simp; done) | (go_simp; with_reducible rfl))
              try simp only [Act.put, List.setIfInBounds_toArray, List.set_cons_zero, List.set_cons_succ]
              refine held_take 2 (v := ?_) rfl (by kernel_rfl) (by kernel_rfl) (by kernel_rfl) (fun _ _ _ h => h) (by assumption) ?_ ?_
              rotate_left
              · first | (refine Or.inr ⟨?_, ?_⟩ <;> rfl) | (refine Or.inl ⟨by rfl, ?_⟩; intro w hSw; (try dsimp only at hSw); first | (go_simp; done) | (go_simp; with_reducible rfl))
              try simp only [Act.put, List.setIfInBounds_toArray, List.set_cons_zero, List.set_cons_succ]
              refine held_take 3 (v := ?_) rfl (by kernel_rfl) (by kernel_rfl) (by kernel_rfl) (fun _ _ _ h => h) (by assumption) ?_ ?_
              rotate_left
              · first | (refine Or.inr ⟨?_, ?_⟩ <;> rfl) | (refine Or.inl ⟨by rfl, ?_⟩; intro w hSw; (try dsimp only at hSw); first | (go_simp; done) | (go_simp; with_reducible rfl))
              try simp only [Act.put, List.setIfInBounds_toArray, List.set_cons_zero, List.set_cons_succ]
              refine held_take 4 (v := ?_) rfl (by kernel_rfl) (by kernel_rfl) (by kernel_rfl) (fun _ _ _ h => h) (by assumption) ?_ ?_
              rotate_left
              · first | (refine Or.inr ⟨?_, ?_⟩ <;> rfl) | (refine Or.inl ⟨by rfl, ?_⟩; intro w hSw; (try dsimp only at hSw); first | (go_simp; done) | (go_simp; with_reducible rfl))
              try simp only [Act.put, List.setIfInBounds_toArray, List.set_cons_zero, List.set_cons_succ]
              refine held_take 5 (v := ?_) rfl (by kernel_rfl) (by kernel_rfl) (by kernel_rfl) (fun _ _ _ h => h) (by assumption) ?_ ?_
              rotate_left
              · first | (refine Or.inr ⟨?_, ?_⟩ <;> rfl) | (refine Or.inl ⟨by rfl, ?_⟩; intro w hSw; (try dsimp only at hSw); first | (go_simp; done) | (go_simp; with_reducible rfl))
              try simp only [Act.put, List.setIfInBounds_toArray, List.set_cons_zero, List.set_cons_succ]
              refine held_take 6 (v := ?_) rfl (by kernel_rfl) (by kernel_rfl) (by kernel_rfl) (fun _ _ _ h => h) (by assumption) ?_ ?_
              rotate_left
              · first | (refine Or.inr ⟨?_, ?_⟩ <;> rfl) | (refine Or.inl ⟨by rfl, ?_⟩; intro w hSw; (try dsimp only at hSw); first | (go_simp; done) | (go_simp; with_reducible rfl))
              try simp only [Act.put, List.setIfInBounds_toArray, List.set_cons_zero, List.set_cons_succ]
              refine held_take 7 (v := ?_) rfl (by kernel_rfl) (by kernel_rfl) (by kernel_rfl) (fun _ _ _ h => h) (by assumption) ?_ ?_
              rotate_left
              · first | (refine Or.inr ⟨?_, ?_⟩ <;> rfl) | (refine Or.inl ⟨by rfl, ?_⟩; intro w hSw; (try dsimp only at hSw); first | (go_simp; done) | (go_simp; with_reducible rfl))
              try simp only [Act.put, List.setIfInBounds_toArray, List.set_cons_zero, List.set_cons_succ]
              refine held_take 8 (v := ?_) rfl (by kernel_rfl) (by kernel_rfl) (by kernel_rfl) (fun _ _ _ h => h) (by assumption) ?_ ?_
              rotate_left
              · first | (refine Or.inr ⟨?_, ?_⟩ <;> rfl) | (refine Or.inl ⟨by rfl, ?_⟩; intro w hSw; (try dsimp only at hSw); first | (go_simp; done) | (go_simp; with_reducible rfl))
              try simp only [Act.put, List.setIfInBounds_toArray, List.set_cons_zero, List.set_cons_succ]
              refine held_call 9 rfl (by kernel_rfl) (fun K hK => ?_)
              go_simp
              with_reducible refine (HC1.out _ hHeld.1).mono ?_
              rintro e w' ⟨rfl, hb'⟩
              refine hK.out _ _ ?_ (fun hHeld => ?_)
              · exact ⟨bstep hHeld.1 hb' (Nat.le_refl _), cell_keep' hHeld.2.1 hb', cell_keep' hHeld.2.2 hb'⟩
              clear hK K
              try simp only [Act.put, List.setIfInBounds_toArray, List.set_cons_zero, List.set_cons_succ]
              refine held_take 10 (v := ?_) rfl (by kernel_rfl) (by kernel_rfl) (by kernel_rfl) (fun _ _ _ h => h) (by assumption) ?_ ?_
              rotate_left
              · first | (refine Or.inr ⟨?_, ?_⟩ <;> rfl) | (refine Or.inl ⟨by rfl, ?_⟩; intro w hSw; (try dsimp only at hSw); first | (go_simp; done) | (go_simp; with_reducible rfl))
              try simp only [Act.put, List.setIfInBounds_toArray, List.set_cons_zero, List.set_cons_succ]
              refine held_take 11 (v := ?_) rfl (by kernel_rfl) (by kernel_rfl) (by kernel_rfl) (fun _ _ _ h => h) (by assumption) ?_ ?_
              rotate_left
              · first | (refine Or.inr ⟨?_, ?_⟩ <;> rfl) | (refine Or.inl ⟨by rfl, ?_⟩; intro w hSw; (try dsimp only at hSw); first | (go_simp; done) | (go_simp; with_reducible rfl))
              try simp only [Act.put, List.setIfInBounds_toArray, List.set_cons_zero, List.set_cons_succ]
              refine held_take 12 (v := ?_) rfl (by kernel_rfl) (by kernel_rfl) (by kernel_rfl) (fun _ _ _ h => h) (by assumption) ?_ ?_
              rotate_left
              · first | (refine Or.inr ⟨?_, ?_⟩ <;> rfl) | (refine Or.inl ⟨by rfl, ?_⟩; intro w hSw; (try dsimp only at hSw); first | (go_simp; done) | (go_simp; with_reducible rfl))
              try simp only [Act.put, List.setIfInBounds_toArray, List.set_cons_zero, List.set_cons_succ]
              refine held_take 13 (v := ?_) rfl (by kernel_rfl) (by kernel_rfl) (by kernel_rfl) (fun _ _ _ h => h) (by assumption) ?_ ?_
              rotate_left
              · first | (refine Or.inr ⟨?_, ?_⟩ <;> rfl) | (refine Or.inl ⟨by rfl, ?_⟩; intro w hSw; (try dsimp only at hSw); first | (go_simp; done) | (go_simp; with_reducible rfl))
              try simp only [Act.put, List.setIfInBounds_toArray, List.set_cons_zero, List.set_cons_succ]
              refine held_take 14 (v := ?_) rfl (by kernel_rfl) (by kernel_rfl) (by kernel_rfl) (fun _ _ _ h => h) (by assumption) ?_ ?_
              rotate_left
              · first | (refine Or.inr ⟨?_, ?_⟩ <;> rfl) | (refine Or.inl ⟨by rfl, ?_⟩; intro w hSw; (try dsimp only at hSw); first | (go_simp; done) | (go_simp; with_reducible rfl))
              try simp only [Act.put, List.setIfInBounds_toArray, List.set_cons_zero, List.set_cons_succ]
              refine held_take 15 (v := ?_) rfl (by kernel_rfl) (by kernel_rfl) (by kernel_rfl) (fun _ _ _ h => h) (by assumption) ?_ ?_
              rotate_left
              · first | (refine Or.inr ⟨?_, ?_⟩ <;> rfl) | (refine Or.inl ⟨by rfl, ?_⟩; intro w hSw; (try dsimp only at hSw); first | (go_simp; done) | (go_simp; with_reducible rfl))
              try simp only [Act.put, List.setIfInBounds_toArray, List.set_cons_zero, List.set_cons_succ]
              refine held_take 16 (v := ?_) rfl (by kernel_rfl) (by kernel_rfl) (by kernel_rfl) (fun _ _ _ h => h) (by assumption) ?_ ?_
              rotate_left
              · first | (refine Or.inr ⟨?_, ?_⟩ <;> rfl) | (refine Or.inl ⟨by rfl, ?_⟩; intro w hSw; (try dsimp only at hSw); first | (go_simp; done) | (go_simp; with_reducible rfl))
              try simp only [Act.put, List.setIfInBounds_toArray, List.set_cons_zero, List.set_cons_succ]
              refine held_take 17 (v := ?_) rfl (by kernel_rfl) (by kernel_rfl) (by kernel_rfl) (fun _ _ _ h => h) (by assumption) ?_ ?_
              rotate_left
              · first | (refine Or.inr ⟨?_, ?_⟩ <;> rfl) | (refine Or.inl ⟨by rfl, ?_⟩; intro w hSw; (try dsimp only at hSw); first | (go_simp; done) | (go_simp; with_reducible rfl))
              try simp only [Act.put, List.setIfInBounds_toArray, List.set_cons_zero, List.set_cons_succ]
              refine held_take 18 (v := ?_) rfl (by kernel_rfl) (by kernel_rfl) (by kernel_rfl) (fun _ _ _ h => h) (by assumption) ?_ ?_
              rotate_left
              · first | (refine Or.inr ⟨?_, ?_⟩ <;> rfl) | (refine Or.inl ⟨by rfl, ?_⟩; intro w hSw; (try dsimp only at hSw); first | (go_simp; done) | (go_simp; with_reducible rfl))
              try simp only [Act.put, List.setIfInBounds_toArray, List.set_cons_zero, List.set_cons_succ]
              refine held_take 19 (v := ?_) rfl (by kernel_rfl) (by kernel_rfl) (by kernel_rfl) (fun _ _ _ h => h) (by assumption) ?_ ?_
              rotate_left
              · first | (refine Or.inr ⟨?_, ?_⟩ <;> rfl) | (refine Or.inl ⟨by rfl, ?_⟩; intro w hSw; (try dsimp only at hSw); first | (go_simp; done) | (go_simp; with_reducible rfl))
              try simp only [Act.put, List.setIfInBounds_toArray, List.set_cons_zero, List.set_cons_succ]
              refine held_call 20 rfl (by kernel_rfl) (fun K hK => ?_)
              go_simp
              with_reducible refine (HC2.out _ hHeld.1).mono ?_
              rintro e w' ⟨rfl, hb'⟩
              refine hK.out _ _ ?_ (fun hHeld => ?_)
              · exact ⟨bstep hHeld.1 hb' (Nat.le_refl _), cell_keep' hHeld.2.1 hb', cell_keep' hHeld.2.2 hb'⟩
              clear hK K
              try simp only [Act.put, List.setIfInBounds_toArray, List.set_cons_zero, List.set_cons_succ]
              refine held_take 21 (v := ?_) rfl (by kernel_rfl) (by kernel_rfl) (by kernel_rfl) (fun _ _ _ h => h) (by assumption) ?_ ?_
              rotate_left
              · first | (refine Or.inr ⟨?_, ?_⟩ <;> rfl) | (refine Or.inl ⟨by rfl, ?_⟩; intro w hSw; (try dsimp only at hSw); first | (go_simp; done) | (go_simp; with_reducible rfl))
              try simp only [Act.put, List.setIfInBounds_toArray, List.set_cons_zero, List.set_cons_succ]
              refine held_take 22 (v := ?_) rfl (by kernel_rfl) (by kernel_rfl) (by kernel_rfl) (fun _ _ _ h => h) (by assumption) ?_ ?_
              rotate_left
              · first | (refine Or.inr ⟨?_, ?_⟩ <;> rfl) | (refine Or.inl ⟨by rfl, ?_⟩; intro w hSw; (try dsimp only at hSw); first | (go_simp; done) | (go_simp; with_reducible rfl))
              try simp only [Act.put, List.setIfInBounds_toArray, List.set_cons_zero, List.set_cons_succ]
              refine held_take 23 (v := ?_) rfl (by kernel_rfl) (by kernel_rfl) (by kernel_rfl) (fun _ _ _ h => h) (by assumption) ?_ ?_
              rotate_left
              · first | (refine Or.inr ⟨?_, ?_⟩ <;> rfl) | (refine Or.inl ⟨by rfl, ?_⟩; intro w hSw; (try dsimp only at hSw); first | (go_simp; done) | (go_simp; with_reducible rfl))
              try simp only [Act.put, List.setIfInBounds_toArray, List.set_cons_zero, List.set_cons_succ]
              refine held_take 24 (v := ?_) rfl (by kernel_rfl) (by kernel_rfl) (by kernel_rfl) (fun _ _ _ h => h) (by assumption) ?_ ?_
              rotate_left
              · first | (refine Or.inr ⟨?_, ?_⟩ <;> rfl) | (refine Or.inl ⟨by rfl, ?_⟩; intro w hSw; (try dsimp only at hSw); first | (go_simp; done) | (go_simp; with_reducible rfl))
              try simp only [Act.put, List.setIfInBounds_toArray, List.set_cons_zero, List.set_cons_succ]
              refine held_take 25 (v := ?_) rfl (by kernel_rfl) (by kernel_rfl) (by kernel_rfl) (fun _ _ _ h => h) (by assumption) ?_ ?_
              rotate_left
              · first | (refine Or.inr ⟨?_, ?_⟩ <;> rfl) | (refine Or.inl ⟨by rfl, ?_⟩; intro w hSw; (try dsimp only at hSw); first | (go_simp; done) | (go_simp; with_reducible rfl))
              try simp only [Act.put, List.setIfInBounds_toArray, List.set_cons_zero, List.set_cons_succ]
              refine held_take 26 (v := ?_) rfl (by kernel_rfl) (by kernel_rfl) (by kernel_rfl) (fun _ _ _ h => h) (by assumption) ?_ ?_
              rotate_left
              · first | (refine Or.inr ⟨?_, ?_⟩ <;> rfl) | (refine Or.inl ⟨by rfl, ?_⟩; intro w hSw; (try dsimp only at hSw); first | (go_simp; done) | (go_simp; with_reducible rfl))
              try simp only [Act.put, List.setIfInBounds_toArray, List.set_cons_zero, List.set_cons_succ]
              refine held_take 27 (v := ?_) rfl (by kernel_rfl) (by kernel_rfl) (by kernel_rfl) (fun _ _ _ h => h) (by assumption) ?_ ?_
              rotate_left
              · first | (refine Or.inr ⟨?_, ?_⟩ <;> rfl) | (refine Or.inl ⟨by rfl, ?_⟩; intro w hSw; (try dsimp only at hSw); first | (go_simp; done) | (go_simp; with_reducible rfl))
              try simp only [Act.put, List.setIfInBounds_toArray, List.set_cons_zero, List.set_cons_succ]
              refine held_take 28 (v := ?_) rfl (by kernel_rfl) (by kernel_rfl) (by kernel_rfl) (fun _ _ _ h => h) (by assumption) ?_ ?_
              rotate_left
              · first | (refine Or.inr ⟨?_, ?_⟩ <;> rfl) | (refine Or.inl ⟨by rfl, ?_⟩; intro w hSw; (try dsimp only at hSw); first | (go_simp; done) | (go_simp; with_reducible rfl))
              try simp only [Act.put, List.setIfInBounds_toArray, List.set_cons_zero, List.set_cons_succ]
              refine held_take 29 (v := ?_) rfl (by kernel_rfl) (by kernel_rfl) (by kernel_rfl) (fun _ _ _ h => h) (by assumption) ?_ ?_
              rotate_left
              · first | (refine Or.inr ⟨?_, ?_⟩ <;> rfl) | (refine Or.inl ⟨by rfl, ?_⟩; intro w hSw; (try dsimp only at hSw); first | (go_simp; done) | (go_simp; with_reducible rfl))
              try simp only [Act.put, List.setIfInBounds_toArray, List.set_cons_zero, List.set_cons_succ]
              refine held_take 30 (v := ?_) rfl (by kernel_rfl) (by kernel_rfl) (by kernel_rfl) (fun _ _ _ h => h) (by assumption) ?_ ?_
              rotate_left
              · first | (refine Or.inr ⟨?_, ?_⟩ <;> rfl) | (refine Or.inl ⟨by rfl, ?_⟩; intro w hSw; (try dsimp only at hSw); first | (go_simp; done) | (go_simp; with_reducible rfl))
              try simp only [Act.put, List.setIfInBounds_toArray, List.set_cons_zero, List.set_cons_succ]
              refine held_take 31 (v := ?_) rfl (by kernel_rfl) (by kernel_rfl) (by kernel_rfl) (fun _ _ _ h => h) (by assumption) ?_ ?_
              rotate_left
              · first | (refine Or.inr ⟨?_, ?_⟩ <;> rfl) | (refine Or.inl ⟨by rfl, ?_⟩; intro w hSw; (try dsimp only at hSw); first | (go_simp; done) | (go_simp; with_reducible rfl))
              try simp only [Act.put, List.setIfInBounds_toArray, List.set_cons_zero, List.set_cons_succ]
              refine held_take 32 (v := ?_) rfl (by kernel_rfl) (by kernel_rfl) (by kernel_rfl) (fun _ _ _ h => h) (by assumption) ?_ ?_
              rotate_left
              · first | (refine Or.inr ⟨?_, ?_⟩ <;> rfl) | (refine Or.inl ⟨by rfl, ?_⟩; intro w hSw; (try dsimp only at hSw); first | (go_simp; done) | (go_simp; with_reducible rfl))
              try simp only [Act.put, List.setIfInBounds_toArray, List.set_cons_zero, List.set_cons_succ]
              refine held_take 33 (v := ?_) rfl (by kernel_rfl) (by kernel_rfl) (by kernel_rfl) (fun _ _ _ h => h) (by assumption) ?_ ?_
              rotate_left
              · first | (refine Or.inr ⟨?_, ?_⟩ <;> rfl) | (refine Or.inl ⟨by rfl, ?_⟩; intro w hSw; (try dsimp only at hSw); first | (go_simp; done) | (go_simp; with_reducible rfl))
              try simp only [Act.put, List.setIfInBounds_toArray, List.set_cons_zero, List.set_cons_succ]
              refine held_take 34 (v := ?_) rfl (by kernel_rfl) (by kernel_rfl) (by kernel_rfl) (fun _ _ _ h => h) (by assumption) ?_ ?_
              rotate_left
              · first | (refine Or.inr ⟨?_, ?_⟩ <;> rfl) | (refine Or.inl ⟨by rfl, ?_⟩; intro w hSw; (try dsimp only at hSw); first | (go_simp; done) | (go_simp; with_reducible rfl))
              try simp only [Act.put, List.setIfInBounds_toArray, List.set_cons_zero, List.set_cons_succ]
              refine held_take 35 (v := ?_) rfl (by kernel_rfl) (by kernel_rfl) (by kernel_rfl) (fun _ _ _ h => h) (by assumption) ?_ ?_
              rotate_left
              · first | (refine Or.inr ⟨?_, ?_⟩ <;> rfl) | (refine Or.inl ⟨by rfl, ?_⟩; intro w hSw; (try dsimp only at hSw); first | (go_simp; done) | (go_simp; with_reducible rfl))
              try simp only [Act.put, List.setIfInBounds_toArray, List.set_cons_zero, List.set_cons_succ]
              refine held_take 36 (v := ?_) rfl (by kernel_rfl) (by kernel_rfl) (by kernel_rfl) (fun _ _ _ h => h) (by assumption) ?_ ?_
              rotate_left
              · first | (refine Or.inr ⟨?_, ?_⟩ <;> rfl) | (refine Or.inl ⟨by rfl, ?_⟩; intro w hSw; (try dsimp only at hSw); first | (go_simp; done) | (go_simp; with_reducible rfl))
              try simp only [Act.put, List.setIfInBounds_toArray, List.set_cons_zero, List.set_cons_succ]
              refine held_take 37 (v := ?_) rfl (by kernel_rfl) (by kernel_rfl) (by kernel_rfl) (fun _ _ _ h => h) (by assumption) ?_ ?_
              rotate_left
              · first | (refine Or.inr ⟨?_, ?_⟩ <;> rfl) | (refine Or.inl ⟨by rfl, ?_⟩; intro w hSw; (try dsimp only at hSw); first | (go_simp; done) | (go_simp; with_reducible rfl))
              try simp only [Act.put, List.setIfInBounds_toArray, List.set_cons_zero, List.set_cons_succ]
              refine held_take 38 (v := ?_) rfl (by kernel_rfl) (by kernel_rfl) (by kernel_rfl) (fun _ _ _ h => h) (by assumption) ?_ ?_
              rotate_left
              · first | (refine Or.inr ⟨?_, ?_⟩ <;> rfl) | (refine Or.inl ⟨by rfl, ?_⟩; intro w hSw; (try dsimp only at hSw); first | (go_simp; done) | (go_simp; with_reducible rfl))
              try simp only [Act.put, List.setIfInBounds_toArray, List.set_cons_zero, List.set_cons_succ]
              refine held_call 39 rfl (by kernel_rfl) (fun K hK => ?_)
              go_simp
              refine hK.out _ _ ?_ (fun hHeld2 => ?_)
              · exact ⟨hHeld.1.alloc hHeld.1.size _, cell_keep' hHeld.2.1 ((Below.refl _ _).alloc (Nat.le_refl _) _), cell_keep' hHeld.2.2 ((Below.refl _ _).alloc (Nat.le_refl _) _)⟩
              clear hK K
              try simp only [Act.put, List.setIfInBounds_toArray, List.set_cons_zero, List.set_cons_succ]
              refine held_call 40 rfl (by kernel_rfl) (fun K hK => ?_)
              go_simp
              with_reducible refine (HC3.out _ hHeld.1).mono ?_
              rintro e w' ⟨rfl, hb'⟩
              refine hK.out _ _ ?_ (fun hHeld3 => ?_)
              · exact ⟨bstep hHeld2.1 hb' (Nat.le_refl _), cell_keep' hHeld2.2.1 hb', cell_keep' hHeld2.2.2 hb'⟩
              clear hK K hHeld hHeld2
              try simp only [Act.put, List.setIfInBounds_toArray, List.set_cons_zero, List.set_cons_succ]
              refine held_take 41 (v := ?_) rfl (by kernel_rfl) (by kernel_rfl) (by kernel_rfl) (fun _ _ _ h => h) (by assumption) ?_ ?_
              rotate_left
              · first | (refine Or.inr ⟨?_, ?_⟩ <;> rfl) | (refine Or.inl ⟨by rfl, ?_⟩; intro w hSw; (try dsimp only at hSw); first | (go_simp; done) | (go_simp; with_reducible rfl))
              try simp only [Act.put, List.setIfInBounds_toArray, List.set_cons_zero, List.set_cons_succ]
              refine held_take 42 (v := ?_) rfl (by kernel_rfl) (by kernel_rfl) (by kernel_rfl) (fun _ _ _ h => h) (by assumption) ?_ ?_
              rotate_left
              · first | (refine Or.inr ⟨?_, ?_⟩ <;> rfl) | (refine Or.inl ⟨by rfl, ?_⟩; intro w hSw; (try dsimp only at hSw); first | (go_simp; done) | (go_simp; with_reducible rfl))
              try simp only [Act.put, List.setIfInBounds_toArray, List.set_cons_zero, List.set_cons_succ]
              refine wpAnyH_done (by kernel_rfl) ?_ _
              have HBF := Lib.hid (bstep HB1.out hHeld3.1 (Nat.le_refl _))
              clear hHeld3 ci ck
              go_wp2_with fail
              go_roundw
              case rel => first | exact ⟨k + 1, by omega, by go_num, HBF.out⟩ | ((repeat apply Exists.intro); exact ⟨⟨k + 1, by omega, by go_num, HBF.out⟩, rfl⟩)
              case measure => simp [intOf]; omega
            · have : k = 21 := by omega
              subst this
              go_wp2_with fail
              go_roundw
              case rel => exact ⟨i + 1, by omega, by go_num, HB1.out⟩
              case measure => simp [intOf]; omega
        · have : i = 21 := by omega
          subst this
          have HBF := Lib.hid (bstep HW2.out HB1.out (Nat.le_refl _))
          go_wp2_with fail
          go_ret
          exact ⟨rfl, HBF.out⟩
end Go.Proofs.YtmifjfohanegiaaGreatDoor
