/-
  The walk of CrcKnown.
-/
import Derived.Test.YtflghgilcooiiaaCrcD
import Derived.Test.YtflghgilcooiiaaCrcE
namespace Go.Proofs.Ytflghgilcooiiaa
set_option linter.unusedVariables false
open Go.RowKit

theorem wrap_small (m : Nat) (h : m ≤ 9223372036854775807) : RowKit.wrap64 ((m : Nat) : Int) = (m : Int) := by unfold RowKit.wrap64; omega
theorem wrap_pow (n : Nat) (h : n ≤ 62) : RowKit.wrap64 ((2 : Int) ^ n) = (2 : Int) ^ n := by
  have hp : (2 : Nat) ^ n ≤ 2 ^ 62 := Nat.pow_le_pow_right (by decide) h
  have hc : ((2 : Int) ^ n) = ((2 ^ n : Nat) : Int) := by simp
  rw [hc]
  exact wrap_small _ (Nat.le_trans hp (by decide))
theorem crcSums_n (l : List Bool) (n : Nat) (a : Option Addr) (cap : Nat) (w : World) (hs : SlB w a cap l) (hr : l.length ≤ 140737488351232) (hn : n = l.length) :
    Calls Try.prog 4 #[.slice a n cap] w fun e w' => e = .returned (.bool true) ∧ Below w.heap.size w w' := by subst hn; exact crcSums_walk l a cap w hs hr
theorem crcThrough_n (l : List Bool) (m : Nat) (n : Int) (a : Option Addr) (cap : Nat) (w : World) (hs : SlB w a cap l) (hr : l.length ≤ 140737488351232) (hn : -9223372036854775808 ≤ n ∧ n ≤ 9223372036854775807) (hm : m = l.length) :
    Calls Try.prog 6 #[.slice a m cap, .int .i64 n] w fun e w' => e = .returned (.bool true) ∧ Below w.heap.size w w' := by subst hm; exact crcThrough_walk l n a cap w hs hr hn
theorem crcCounts_n (l m : List Bool) (x y : Nat) (a b : Option Addr) (p q : Nat) (w : World) (hs : SlB w a p l) (ht : SlB w b q m) (hx : x = l.length) (hy : y = m.length) :
    Calls Try.prog 5 #[.slice a x p, .slice b y q] w fun e w' => e = .returned (.bool true) ∧ Below w.heap.size w w' := by subst hx; subst hy; exact crcCounts_walk l m a b p q w hs ht

set_option maxRecDepth 100000 in
set_option maxHeartbeats 1000000 in
theorem knownShort_any (w : World) :
    Calls Try.prog 29 #[] w fun e w' => e = .returned (.bool true) ∧ Below w.heap.size w w' := by
  go_enter Try.func29, Try.ntmps29
  go_wp2_with fail
  go_loopw [1] (fun i wr => ∃ n : Nat, n ≤ 10 ∧ i = .int .i64 n ∧ Below w.heap.size w wr) (fun i _ => 10 - (intOf i).toNat)
  case atStart => exact ⟨0, by omega, rfl, Below.refl _ _⟩
  case round =>
    obtain ⟨n, hn, rfl, hbel⟩ := hrel
    by_cases hlt : n < 10
    · have hlt' : ((n : Nat) : Int) ≤ 9 := by omega
      go_wp2_with fail
      go_loopw [2] (fun i wr => ∃ k : Nat, k ≤ 2 ^ n ∧ i = .int .i64 k ∧ Below w.heap.size w wr) (fun i _ => 2 ^ n - (intOf i).toNat)
      case atStart => exact ⟨0, Nat.zero_le _, rfl, hbel⟩
      case round =>
        clear hbel
        obtain ⟨k, hk, rfl, hbel⟩ := hrel
        have hp : (2 : Nat) ^ n ≤ 512 := (Nat.pow_le_pow_right (by decide) (by omega) : (2 : Nat) ^ n ≤ 2 ^ 9)
        have hc : ((2 : Int) ^ n) = ((2 ^ n : Nat) : Int) := by simp
        have hw := wrap_pow n (by omega)
        by_cases hlt2 : k < 2 ^ n
        · have hlt3 : ((k : Nat) : Int) < (2 : Int) ^ n := by rw [hc]; omega
          clear hc
          go_wp2_with fail
          go_loopw [3, 4] (fun v i wr => ∃ (j : Nat) (xs : List Bool), j ≤ n ∧ i = .int .i64 j ∧ xs.length = j ∧ Owns wr w.heap.size 4 1 enBool v xs ∧ Below w.heap.size w wr) (fun _ i _ => n - (intOf i).toNat)
          case atStart => exact ⟨0, [], by omega, rfl, rfl, Owns.nil _ _ _ _ _, hbel⟩
          case round =>
            clear hbel
            obtain ⟨j, xs, hj, rfl, hxl, hown, hbel⟩ := hrel
            by_cases hlt4 : j < n
            · have HL := Lib.hid hxl
              clear hxl hw hlt3
              go_wp2_with (at_builtin; go_loud (refine wpList_append_elem bools_ty xs _ hown hbel (Nat.le_refl _) (by rw [HL.out]; omega) ?_))
              intro v' w1 hown1 hb1
              clear hown hbel
              go_wp2
              go_roundw
              case rel => exact ⟨j + 1, _, by omega, by go_num, by rw [List.length_append, HL.out]; rfl, hown1, hb1⟩
              case measure => simp [intOf]; omega
            · have hjn : j = n := by omega
              subst hjn
              obtain ⟨a, c, rfl, hsl⟩ := hown.shape
              rw [hxl]
              have HL := Lib.hid hxl
              clear hxl hw hlt3 hown
              go_wp2_with fail
              refine (crcSums_n xs _ _ _ _ hsl (by rw [HL.out]; omega) HL.out.symm).mono ?_
              rintro e w1 ⟨rfl, hb1⟩
              have hb2 := bstep hbel hb1 (Nat.le_refl _)
              have hs1 := hsl.keep hb1 (Nat.le_refl _)
              go_wp2_with fail
              refine (crcThrough_n xs _ _ _ _ _ hs1 (by rw [HL.out]; omega) (by omega) HL.out.symm).mono ?_
              rintro e w2 ⟨rfl, hb3⟩
              have hb4 := bstep hb2 hb3 (Nat.le_refl _)
              have hs2 := hs1.keep hb3 (Nat.le_refl _)
              clear hs1 hsl hb1 hb2 hb3 hbel
              have hlen := hs2.len
              rw [HL.out] at hlen
              go_wp2_with fail
              refine (crcCounts_n xs (xs.take (j / 2)) _ _ _ _ _ _ _ hs2 (SlOf.pre (ys := xs.drop (j / 2)) (by rw [List.take_append_drop]; exact hs2) (fun _ => rfl)) HL.out.symm (by rw [List.length_take, HL.out]; omega)).mono ?_
              rintro e w3 ⟨rfl, hb5⟩
              go_wp2_with fail
              go_roundw
              case rel => exact ⟨k + 1, by omega, by go_num, bstep hb4 hb5 (Nat.le_refl _)⟩
              case measure => simp [intOf]; omega
        · have hlt3 : ¬ ((k : Nat) : Int) < (2 : Int) ^ n := by rw [hc]; omega
          clear hc
          go_wp2_with fail
          go_roundw
          case rel => exact ⟨n + 1, by omega, by go_num, hbel⟩
          case measure => simp [intOf]; omega
    · go_wp2_with fail
      go_ret
      exact ⟨rfl, hbel⟩

set_option maxRecDepth 100000 in
set_option maxHeartbeats 1000000 in
theorem knownSums_any (w : World) :
    Calls Try.prog 28 #[] w fun e w' => e = .returned (.bool true) ∧ Below w.heap.size w w' := by
  go_enter Try.func28, Try.ntmps28
  go_wp2_with fail
  go_loopw [1, 3] (fun v i wr => ∃ k : Nat, k ≤ 8 ∧ i = .int .i64 k ∧ Owns wr w.heap.size 4 1 enBool v (List.replicate k true) ∧ Below w.heap.size w wr) (fun _ i _ => 8 - (intOf i).toNat)
  case atStart => exact ⟨0, Nat.zero_le _, rfl, Owns.nil _ _ _ _ _, Below.refl _ _⟩
  case round =>
    obtain ⟨k, hk, rfl, hown, hbel⟩ := hrel
    by_cases hlt : k < 8
    · go_wp2_with (at_builtin; go_loud (refine wpList_append_elem bools_ty _ true hown hbel (Nat.le_refl _) (by simp; omega) ?_))
      intro v' w1 hown1 hb1
      rw [← List.replicate_succ'] at hown1
      clear hown hbel
      go_wp2
      go_roundw
      case rel => exact ⟨k + 1, by omega, by go_num, hown1, hb1⟩
      case measure => simp [intOf]; omega
    · obtain rfl : k = 8 := by omega
      go_wp2_with (at_builtin; go_loud (refine wpList_append_elem3 bools_ty [] true (Owns.nil _ _ _ _ enBool) hbel (Nat.le_refl _) (by simp) ?_))
      intro v' w1 hown1 hb1 hg1 hv1
      have ho8 := hown.other hg1 (Apart.nil _)
      have hap := (Apart.nil u1).app hown hv1
      clear hown hbel hg1 hv1
      go_wp2_with fail
      go_loopw [2, 4] (fun v i wr => ∃ k : Nat, k ≤ 14 ∧ i = .int .i64 k ∧ Owns wr w.heap.size 4 1 enBool v (true :: List.replicate k false) ∧ Owns wr w.heap.size 4 1 enBool u1 (List.replicate 8 true) ∧ Apart v u1 ∧ Below w.heap.size w wr) (fun _ i _ => 14 - (intOf i).toNat)
      case atStart => exact ⟨0, Nat.zero_le _, rfl, hown1, ho8, hap, hb1⟩
      case round =>
        obtain ⟨k, hk, rfl, hown, ho8, hap, hbel⟩ := hrel
        by_cases hlt : k < 14
        · go_wp2_with (at_builtin; go_loud (refine wpList_append_elem3 bools_ty _ false hown hbel (Nat.le_refl _) (by simp; omega) ?_))
          intro v' w1 hown1 hb1 hg1 hv1
          have ho81 := ho8.other hg1 hap
          have hap1 := hap.app ho8 hv1
          have hown2 : Owns w1 w.heap.size 4 1 enBool v' (true :: List.replicate (k + 1) false) := by rw [List.replicate_succ']; exact hown1
          clear hown hbel ho8 hap hg1 hv1 hown1
          go_wp2
          go_roundw
          case rel => exact ⟨k + 1, by omega, by go_num, hown2, ho81, hap1, hb1⟩
          case measure => simp [intOf]; omega
        · obtain rfl : k = 14 := by omega
          obtain ⟨xa, xc, rfl, hx⟩ := hown.shape
          obtain ⟨ya, yc, rfl, hy⟩ := ho8.shape
          have e1 : crcN [true, false] = 20139 := by decide
          have e2 : crcN [false, true] = 17817 := by decide
          have e3 : crcN (List.replicate 8 true) = 149 := by decide
          have e4 : crcN (true :: List.replicate 14 false) = 7173 := by decide
          have E1 := Lib.hid e1
          have E2 := Lib.hid e2
          have E3 := Lib.hid e3
          have E4 := Lib.hid e4
          clear e1 e2 e3 e4 hap hown ho8
          go_wp2_with fail
          refine (works20_any _).mono ?_
          rintro e w1 ⟨rfl, hb1⟩
          have hb := bstep hbel hb1 (Nat.le_refl _)
          have hx1 := hx.keep hb1 (Nat.le_refl _)
          have hy1 := hy.keep hb1 (Nat.le_refl _)
          clear hb1 hbel hx hy
          go_wp2_with fail
          refine (crcsum_n [true, false] _ _ _ _ (SlOf.lit w1 enBool 1 (fun _ => rfl) [true, false] _ _ 2 rfl rfl (by decide)) rfl).mono ?_
          rintro e w2 ⟨rfl, hb2⟩
          rw [E1.out]
          go_wp2_with fail
          refine (crcsum_n [false, true] _ _ _ _ (SlOf.lit w2 enBool 1 (fun _ => rfl) [false, true] _ _ 2 rfl rfl (by decide)) rfl).mono ?_
          rintro e w3 ⟨rfl, hb3⟩
          rw [E2.out]
          have hc2 : Below w1.heap.size w1 w2 := ((Below.refl _ _).alloc (Nat.le_refl _) _).trans (hb2.mono (by simp))
          have hc3 : Below w2.heap.size w2 w3 := ((Below.refl _ _).alloc (Nat.le_refl _) _).trans (hb3.mono (by simp))
          have hx3 := (hx1.keep hc2 (Nat.le_refl _)).keep hc3 (Nat.le_refl _)
          have hy3 := (hy1.keep hc2 (Nat.le_refl _)).keep hc3 (Nat.le_refl _)
          have hb' := bstep (bstep hb hc2 (Nat.le_refl _)) hc3 (Nat.le_refl _)
          clear hb hb2 hb3 hc2 hc3 hx1 hy1 E1 E2
          go_wp2_with fail
          refine (crcsum_n _ _ _ _ _ hy3 rfl).mono ?_
          rintro e w4 ⟨rfl, hb4⟩
          rw [E3.out]
          have hx4 := hx3.keep hb4 (Nat.le_refl _)
          go_wp2_with fail
          refine (crcsum_n _ _ _ _ _ hx4 rfl).mono ?_
          rintro e w5 ⟨rfl, hb5⟩
          rw [E4.out]
          go_wp2_with fail
          refine (with20_n [true] _ _ _ _ (SlOf.lit w5 enBool 1 (fun _ => rfl) [true] _ _ 1 rfl rfl (by decide)) (by decide) rfl).mono ?_
          rintro e w6 ⟨v, rfl, hb6, ho6⟩
          obtain ⟨za, zc, rfl, hz⟩ := ho6.shape
          have hc6 : Below w5.heap.size w5 w6 := ((Below.refl _ _).alloc (Nat.le_refl _) _).trans (hb6.mono (by simp))
          go_wp2_with fail
          refine (crcsum_n _ _ _ _ _ hz rfl).mono ?_
          rintro e w7 ⟨rfl, hb7⟩
          rw [withN_zero]
          go_wp2_with fail
          go_ret
          exact ⟨rfl, bstep (bstep (bstep (bstep hb' hb4 (Nat.le_refl _)) hb5 (Nat.le_refl _)) hc6 (Nat.le_refl _)) hb7 (Nat.le_refl _)⟩

theorem SlOf.drew {α : Type} {w : World} {en : α → List Value} {size : Nat} {a : Option Addr} {cap : Nat} {xs : List α} (h : SlOf w en size a cap xs) : SlOf w.drew en size a cap xs :=
  h.keep (Below.refl _ _).drew (Nat.le_refl _)
theorem u16s_ty : SlTy Try.prog 60 34 1 2 := SlTy.mk' (.int .u16 0) Try.underlying60 (by kernel_rfl) rfl (by decide) (by decide)
def colI (k : Nat) : Int := ((colC k : Nat) : Int)
theorem cols_fresh : fresh ((List.range 127).map colC) 0 = true := by decide +kernel
theorem cols_ne (k i : Nat) (hk : k < i) (hi : i < 127) : colC k ≠ colC i := by
  have h1 := (fresh_ok _ _ cols_fresh).1
  have h2 := List.pairwise_iff_getElem.1 h1 k i (by simp; omega) (by simp; omega) hk
  simpa using h2
theorem crcN_col (k : Nat) : crcN (true :: List.replicate k false) = colC k := rfl
theorem cols_round : colC 127 = colC 0 := by decide +kernel

set_option maxRecDepth 100000 in
set_option maxHeartbeats 1000000 in
theorem knownPlaces_any (w : World) :
    Calls Try.prog 30 #[] w fun e w' => e = .returned (.bool true) ∧ Below w.heap.size w w' := by
  go_enter Try.func30, Try.ntmps30
  go_wp2_with fail
  have hlit := Owns.lit w w.heap.size enBool 1 (fun _ => rfl) [true] #[.bool true] 4 1 rfl rfl (by decide) (Nat.le_refl _)
  go_loopw [1, 2, 3] (fun s v i wr => ∃ k : Nat, k ≤ 127 ∧ i = .int .i64 k ∧ Owns wr w.heap.size 34 1 (enInt .u16) s ((List.range k).map colI) ∧ Owns wr w.heap.size 4 1 enBool v (true :: List.replicate k false) ∧ Apart s v ∧ Below w.heap.size w wr) (fun _ _ i _ => 127 - (intOf i).toNat)
  case atStart => exact ⟨0, Nat.zero_le _, rfl, Owns.nil _ _ _ _ _, hlit, Apart.nil _, (Below.refl _ _).alloc (Nat.le_refl _) _⟩
  case round =>
    clear hlit
    obtain ⟨i, hi, rfl, hos, hol, hap, hbel⟩ := hrel
    obtain ⟨la, lc, rfl, hl⟩ := hol.shape
    have hll : (true :: List.replicate i false).length = i + 1 := by simp
    by_cases hlt : i < 127
    · go_wp2_with fail
      refine (crcsum_n _ _ _ _ _ hl (by simp)).mono ?_
      rintro e w1 ⟨rfl, hb1⟩
      have hos1 := hos.keep hb1 (Nat.le_refl _)
      have hol1 := hol.keep hb1 (Nat.le_refl _)
      have hbel1 := bstep hbel hb1 (Nat.le_refl _)
      obtain ⟨sa, sc, rfl, hs⟩ := hos1.shape
      have hsl : ((List.range i).map colI).length = i := by simp
      rw [hsl, show (((crcN (true :: List.replicate i false)) : Nat) : Int) = colI i from rfl]
      rw [hsl] at hos1 hap
      rw [hll] at hol1 hap
      clear hbel hol hl hos hb1
      generalize hci : colI i = ci
      have HCI := Lib.hid hci
      have HLL := Lib.hid hll
      have HSL := Lib.hid hsl
      clear hci hll hsl
      go_wp2_with fail
      go_loop [5] (fun j => ∃ k : Nat, k ≤ i ∧ j = .int .i64 k) (fun j => i - (intOf j).toNat)
      case atStart => exact ⟨0, Nat.zero_le _, rfl⟩
      case round =>
        obtain ⟨k, hk, rfl⟩ := hrel
        by_cases hlt2 : k < i
        · obtain ⟨b, o, rfl, hb, hc⟩ := SlOf.cell1 (k := k) hs (Value.int .u16) (fun _ => rfl) (by rw [HSL.out]; exact hlt2)
          have hne : (colI k == ci) = false := by
            rw [← HCI.out, beq_eq_false_iff_ne]
            intro h
            exact cols_ne k i hlt2 hlt (by unfold colI at h; omega)
          have hget : ((List.range i).map colI)[k]'(by rw [HSL.out]; exact hlt2) = colI k := by simp
          rw [hget] at hc
          clear hget
          generalize colI k = ck at *
          go_wp2_with fail
          go_round
          case rel => exact ⟨k + 1, by omega, by go_num⟩
          case measure => simp [intOf]; omega
        · have hki : k = i := by omega
          subst hki
          go_wp2_with (at_builtin; go_loud (refine wpList_append_elem3 u16s_ty _ ci hos1 hbel1 (Nat.le_refl _) (by rw [HSL.out]; omega) ?_))
          intro s' w2 hos2 hb2 hg2 hv2
          have hol2 := hol1.other hg2 hap
          have hap2 := hap.app hol1 hv2
          have hos3 : Owns w2 w.heap.size 34 1 (enInt .u16) s' ((List.range (k + 1)).map colI) := by rw [List.range_succ, List.map_append, List.map_singleton, HCI.out]; exact hos2
          clear hos1 hol1 hap hbel1 hos2 hg2 hv2 hs
          go_wp2_with (at_builtin; go_loud (refine wpList_append_elem3 bools_ty _ false hol2 hb2 (Nat.le_refl _) (by rw [HLL.out]; omega) ?_))
          intro v' w3 hol3 hb3 hg3 hv3
          have hos4 := hos3.other hg3 hap2.symm
          have hap3 := (hap2.symm.app hos3 hv3).symm
          have hol4 : Owns w3 w.heap.size 4 1 enBool v' (true :: List.replicate (k + 1) false) := by rw [List.replicate_succ']; exact hol3
          clear hos3 hol2 hap2 hb2 hol3 hg3 hv3
          go_wp2_with fail
          go_roundw
          case rel => exact ⟨k + 1, by omega, by go_num, hos4, hol4, hap3, hb3⟩
          case measure => simp [intOf]; omega
    · obtain rfl : i = 127 := by omega
      obtain ⟨sa, sc, rfl, hs⟩ := hos.shape
      have hsl : ((List.range 127).map colI).length = 127 := by simp
      have hcol : (((crcN (true :: List.replicate 127 false)) : Nat) : Int) = colI 0 := by unfold colI; rw [crcN_col, cols_round]
      have hget : ((List.range 127).map colI)[0]'(by rw [hsl]; omega) = colI 0 := by simp
      obtain ⟨b, o, rfl, hb, hc⟩ := SlOf.cell1 (k := 0) hs (Value.int .u16) (fun _ => rfl) (by rw [hsl]; omega)
      rw [hget] at hc
      rw [hsl]
      have HCOL := Lib.hid hcol
      generalize colI 0 = c0 at *
      have Hl := Lib.hid hl
      clear hcol hget hs hsl hos hol hap hl
      have hpos : (0 : Nat) < 127 := by decide
      have hbw : b < wr.heap.size := hb
      rw [Nat.add_zero] at hc
      go_wp2_with fail
      go_region_with (go_at_call 18; refine (crcsum_n _ _ _ _ _ (Hl.out.drew) (by simp)).mono ?_; rintro e w' ⟨rfl, hb'⟩; rw [HCOL.out]; have hc' : w'.cell? ⟨b, o, none⟩ = some (.int .u16 c0) := (by rw [hb'.cell (p := ⟨b, o, none⟩) hbw]; exact hc); have hb2 := bstep (hbel.drew) hb' (Nat.le_refl _))
      all_goals go_wp2_with fail
      all_goals go_ret
      all_goals exact ⟨by simp [Act.put], hb2⟩

set_option maxHeartbeats 400000 in
theorem crcKnown_walk (w : World) :
    Calls Try.prog 10 #[] w fun e w' => e = .returned (.bool true) ∧ Below w.heap.size w w' := by
  go_enter Try.func10, Try.ntmps10
  go_wp2_with fail
  refine (knownSums_any _).mono ?_
  rintro e w1 ⟨rfl, hb1⟩
  go_wp2_with fail
  refine (knownShort_any _).mono ?_
  rintro e w2 ⟨rfl, hb2⟩
  go_wp2_with fail
  refine (knownPlaces_any _).mono ?_
  rintro e w3 ⟨rfl, hb3⟩
  go_wp2_with fail
  go_ret
  exact ⟨rfl, bstep (bstep hb1 hb2 (Nat.le_refl _)) hb3 (Nat.le_refl _)⟩
end Go.Proofs.Ytflghgilcooiiaa
