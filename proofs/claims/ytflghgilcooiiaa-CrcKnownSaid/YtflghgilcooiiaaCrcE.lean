/-
  The walks of CrcBurst and CrcSix.
-/
import Derived.Test.YtflghgilcooiiaaCrcC
import Derived.Test.YtflghgilcooiiaaCrcN
import Derived.Deep.DeepCutAuto
import Derived.Outline
namespace Go.Proofs.Ytflghgilcooiiaa
set_option linter.unusedVariables false
open Go.RowKit

theorem Owns.set1b {w : World} {base : Nat} {e : TypeId} {g n cap : Nat} {xs : List Bool} (h : Owns w base e 1 enBool (.slice (some ⟨g, 0, none⟩) n cap) xs) {k : Nat} (y : Bool) (hk : k < xs.length) :
    Owns (w.setCell ⟨g, k, none⟩ (.bool y)) base e 1 enBool (.slice (some ⟨g, 0, none⟩) n cap) (xs.set k y) := Owns.set1 Value.bool (fun _ => rfl) h y hk

/-- a row with the first i of the mask's bits turned, from place k on -/
def turned (X : List Bool) (k : Nat) (B : List Bool) (i : Nat) : List Bool := (List.range X.length).map fun j => X.getD j false ^^ (decide (k ≤ j ∧ j < k + i) && B.getD (j - k) false)
theorem turned_len (X : List Bool) (k : Nat) (B : List Bool) (i : Nat) : (turned X k B i).length = X.length := by simp [turned]
theorem turned_zero (X : List Bool) (k : Nat) (B : List Bool) : turned X k B 0 = X := by
  apply List.ext_getElem
  · simp [turned]
  · intro j h1 h2
    have : ¬ (k ≤ j ∧ j < k + 0) := by omega
    simp only [turned, List.getElem_map, List.getElem_range]
    rw [decide_eq_false this]
    simp [List.getD, h2]
theorem turned_get (X : List Bool) (k : Nat) (B : List Bool) (i : Nat) (h : k + i < X.length) : (turned X k B i)[k + i]'(by rw [turned_len]; exact h) = X[k + i] := by
  simp [turned, List.getD, h]
theorem turned_yes (X : List Bool) (k : Nat) (B : List Bool) (i : Nat) (h : k + i < X.length) (hb : B.getD i false = true) : turned X k B (i + 1) = (turned X k B i).set (k + i) (!X[k + i]) := by
  apply List.ext_getElem
  · simp [turned]
  · intro j h1 h2
    rw [List.getElem_set]
    split
    · rename_i e
      subst e
      have hh : k ≤ k + i ∧ k + i < k + (i + 1) := by omega
      simp only [turned, List.getElem_map, List.getElem_range]
      rw [decide_eq_true hh, show k + i - k = i by omega, hb]
      simp [List.getD, h]
    · rename_i e
      have hh : (k ≤ j ∧ j < k + (i + 1)) ↔ (k ≤ j ∧ j < k + i) := by omega
      simp only [turned, List.getElem_map, List.getElem_range]
      rw [decide_eq_decide.2 hh]
theorem turned_no (X : List Bool) (k : Nat) (B : List Bool) (i : Nat) (hb : B.getD i false = false) : turned X k B (i + 1) = turned X k B i := by
  apply List.ext_getElem
  · simp [turned]
  · intro j h1 h2
    simp only [turned, List.getElem_map, List.getElem_range]
    by_cases e : j = k + i
    · subst e
      rw [show k + i - k = i by omega, hb]
      simp
    · have hh : (k ≤ j ∧ j < k + (i + 1)) ↔ (k ≤ j ∧ j < k + i) := by omega
      rw [decide_eq_decide.2 hh]
theorem turned_sum (X : List Bool) (k : Nat) (B : List Bool) (hB : B.length = 15) (hk : k + 15 ≤ X.length) (hX : crcN X = 0) : (crcN (turned X k B 15) = 0) ↔ B = List.replicate 15 false := by
  have e : turned X k B 15 = List.zipWith (· ^^ ·) X (List.replicate k false ++ B ++ List.replicate (X.length - k - 15) false) := by
    apply List.ext_getElem
    · simp [turned, hB]; omega
    · intro j h1 h2
      rw [turned_len] at h1
      simp only [turned, List.getElem_map, List.getElem_range, List.getElem_zipWith]
      have ex : X.getD j false = X[j] := by simp [List.getD, h1]
      rw [ex]
      congr 1
      rw [List.getElem_append]
      split
      · rename_i h3
        rw [List.getElem_append]
        split
        · rename_i h4
          simp at h4
          have : ¬ (k ≤ j ∧ j < k + 15) := by omega
          simp [this]
        · rename_i h4
          simp [hB] at h3 h4
          have : (k ≤ j ∧ j < k + 15) := by omega
          have h5 : j - k < B.length := by omega
          simp [this, List.getD, h5]
      · rename_i h3
        simp [hB] at h3
        have : ¬ (k ≤ j ∧ j < k + 15) := by omega
        simp [this]
  rw [e, crcN_xor _ _ (by simp [hB]; omega), hX, Nat.zero_xor]
  constructor
  · intro h
    exact burst_zero k _ B hB h
  · intro h
    subst h
    have : ∀ a b c : Nat, List.replicate a false ++ List.replicate b false ++ List.replicate c false = List.replicate (a + b + c) false := by
      intro a b c; rw [List.replicate_append_replicate, List.replicate_append_replicate]
    rw [this]
    exact foldl_zero _

def maskB (n : Nat) : List Bool := (List.range 15).map fun i => n / 2 ^ i % 2 == 1
theorem maskB_len (n : Nat) : (maskB n).length = 15 := by simp [maskB]
theorem maskB_get (n i : Nat) (h : i < 15) : (maskB n).getD i false = (n / 2 ^ i % 2 == 1) := by simp [maskB, List.getD, h]
theorem bit_at16 (n j : Nat) (h : n < 65536) : (bits BinOp.and IntKind.u16 ((n : Int) / 2 ^ j) 1 == 1) = (n / 2 ^ j % 2 == 1) := by
  have e : ((n : Int) / 2 ^ j) = ((n / 2 ^ j : Nat) : Int) := by simp
  have hle : n / 2 ^ j ≤ n := Nat.div_le_self _ _
  rw [e]
  have h1 := u16_and_nat (n / 2 ^ j) 1 (by omega) (by decide)
  rw [nat_mask1] at h1
  have h2 : bits BinOp.and IntKind.u16 ((n / 2 ^ j : Nat) : Int) 1 = ((n / 2 ^ j % 2 : Nat) : Int) := h1
  rw [h2, Bool.eq_iff_iff]
  simp only [beq_iff_eq]
  omega

set_option maxRecDepth 100000 in
set_option maxHeartbeats 1000000 in
theorem crcBurst_walk (l : List Bool) (at' : Int) (mask : Nat) (a : Option Addr) (cap : Nat) (w : World) (hs : SlB w a cap l) (hr : l.length ≤ 140737488351232) (ha : -9223372036854775808 ≤ at' ∧ at' ≤ 9223372036854775807) (hm : mask < 65536) :
    Calls Try.prog 9 #[.slice a l.length cap, .int .i64 at', .int .u16 mask] w fun e w' => e = .returned (.bool true) ∧ Below w.heap.size w w' := by
  go_enter Try.func9, Try.ntmps9
  go_wp2_with fail
  refine (with20_any l _ _ _ hs hr).mono ?_
  rintro e w1 ⟨v, rfl, hb1, ho1⟩
  have hwl : (withN l).length = l.length + 15 := by simp [withN, sumBits_len]
  obtain ⟨g, c, rfl, hg, hgs, hle, hmx⟩ := ho1.block (by omega)
  have hz := withN_zero l
  generalize withN l = X at *
  rw [hwl] at ho1 hle ⊢
  have hz' := Lib.hid hz
  clear hz hs
  go_wp2_with fail
  refine (pick_any at' _ _ ha (by omega)).mono ?_
  rintro e _ ⟨rfl, rfl⟩
  have hp1 := pickN_lo at' (l.length + 15 - 14)
  have hp2 := pickN_hi at' (l.length + 15 - 14) (by omega)
  generalize pickN at' (↑l.length + 15 - 14) = p at *
  obtain ⟨k, rfl⟩ := Int.eq_ofNat_of_zero_le hp1
  have hkl : k + 15 ≤ X.length := by omega
  have HL : Hid (X.length = l.length + 15) := hwl
  clear hp1 hwl
  go_wp2_with fail
  have hB := maskB_len mask
  go_loopw [9, 10] (fun n i wr => ∃ j : Nat, j ≤ 15 ∧ i = .int .i64 j ∧ n = .int .i64 ((((maskB mask).take j).count true : Nat) : Int) ∧ Owns wr w.heap.size 4 1 enBool (.slice (some ⟨g, 0, none⟩) (l.length + 15) c) (turned X k (maskB mask) j) ∧ Below w.heap.size w wr) (fun _ i _ => 15 - (intOf i).toNat)
  case atStart => exact ⟨0, by omega, rfl, rfl, by rw [turned_zero]; exact ho1, hb1⟩
  case round =>
    obtain ⟨j, hj, rfl, rfl, hown, hbel⟩ := hrel
    have hcnt : ((maskB mask).take j).count true ≤ 15 := Nat.le_trans List.count_le_length (by simp; omega)
    by_cases hlt : j < 15
    · have hbit := bit_at16 mask j hm
      have hget := maskB_get mask j hlt
      have hcnt1 : Hid (((maskB mask).take (j + 1)).count true = ((maskB mask).take j).count true + (if (mask / 2 ^ j % 2 == 1) = true then 1 else 0)) := by
        show _ = _
        rw [take_snoc' _ j (by rw [hB]; exact hlt), List.count_append]
        congr 1
        have : (maskB mask)[j]'(by rw [hB]; exact hlt) = (mask / 2 ^ j % 2 == 1) := by simp [maskB]
        rw [this]
        cases (mask / 2 ^ j % 2 == 1) <;> rfl
      have htl := turned_len X k (maskB mask) j
      have hki : k + j < X.length := by omega
      cases hq : (mask / 2 ^ j % 2 == 1) with
      | true =>
        rw [hq] at hbit hget hcnt1
        have hst := turned_yes X k (maskB mask) j hki hget
        have hgt := turned_get X k (maskB mask) j hki
        obtain ⟨b, o, e, hb, hc⟩ := SlB.at (k := k + j) hown.sl.2 (by rw [htl]; exact hki)
        cases e
        have hfree := hown.free (k + j)
        have hset := hown.set1b (k := k + j) (!X[k + j]) (by rw [htl]; exact hki)
        rw [← hst] at hset
        rw [hgt, Nat.zero_add] at hc
        have hX := HL.out
        have hkj : ((k : Nat) : Int) + (j : Int) < (l.length : Int) + 15 := by omega
        clear hst hgt htl hget hq hX
        go_wp2_with fail
        go_roundw
        case rel => exact ⟨j + 1, by omega, by go_num, by rw [hcnt1.out]; go_num, by simpa using hset, hbel.setCell hg _⟩
        case measure => simp [intOf]; omega
      | false =>
        rw [hq] at hbit hget hcnt1
        have hst := turned_no X k (maskB mask) j hget
        rw [← hst] at hown
        clear hst htl hget hq
        go_wp2_with fail
        go_roundw
        case rel => exact ⟨j + 1, by omega, by go_num, by rw [hcnt1.out]; rfl, hown, hbel⟩
        case measure => simp [intOf]; omega
    · obtain rfl : j = 15 := by omega
      rw [List.take_of_length_le (by omega)]
      have hts := turned_sum X k (maskB mask) hB hkl hz'.out
      have htl := turned_len X k (maskB mask) 15
      rw [HL.out] at htl
      have hq : ((((maskB mask).count true : Nat) : Int) == 0) = (((crcN (turned X k (maskB mask) 15) : Nat) : Int) == 0) := by
        rw [Bool.eq_iff_iff, beq_iff_eq, beq_iff_eq]
        have h1 : crcN (turned X k (maskB mask) 15) = 0 ↔ (maskB mask).count true = 0 := by
          rw [hts, List.count_eq_zero]
          constructor
          · intro h hm; rw [h] at hm; simp at hm
          · intro h
            refine List.eq_replicate_iff.2 ⟨hB, fun b hb => ?_⟩
            cases b
            · rfl
            · exact absurd hb h
        omega
      clear hts
      have hsl := hown.sl.2
      generalize turned X k (maskB mask) 15 = Y at *
      generalize hc1 : (maskB mask).count true = cnt at *
      have hq' := Lib.hid hq
      clear hq hc1
      go_wp2_with fail
      refine (works20_any _).mono ?_
      rintro e w2 ⟨rfl, hb2⟩
      go_wp2_with fail
      refine (crcsum_n Y _ _ _ _ (hsl.keep hb2 (Nat.le_refl _)) htl.symm).mono ?_
      rintro e w3 ⟨rfl, hb3⟩
      have hq2 := hq'.out
      have hqq : (((cnt : Int) == 0) == (((crcN Y : Nat) : Int) == 0)) = true := by rw [hq2]; simp
      clear hq2
      go_wp2_with fail
      go_ret
      exact ⟨rfl, bstep (bstep hbel hb2 (Nat.le_refl _)) hb3 (Nat.le_refl _)⟩

/-! ### CrcSix -/
theorem ints_ty : SlTy Try.prog 50 3 1 8 := SlTy.mk' (.int .i64 0) Try.underlying50 (by kernel_rfl) rfl (by decide) (by decide)

/-- the row with some bits turned, of the same length -/
theorem zip_take_count (X Y : List Bool) (h : X.length = Y.length) (k : Nat) (hk : k < X.length) : (List.zipWith (· ^^ ·) (X.take (k + 1)) (Y.take (k + 1))).count true = (List.zipWith (· ^^ ·) (X.take k) (Y.take k)).count true + (if (X[k] == Y[k]'(by omega)) = true then 0 else 1) := by
  rw [take_snoc' X k hk, take_snoc' Y k (by omega), List.zipWith_append (by simp; omega), List.count_append]
  congr 1
  cases X[k] <;> cases Y[k]'(by omega) <;> rfl

set_option maxRecDepth 100000 in
set_option maxHeartbeats 2000000 in
theorem crcSix_walk (N : Nat) (l : List Bool) (ats : List Int) (a b : Option Addr) (ca cb : Nat) (w : World) (hs : SlB w a ca l) (hN : (N = l.length ∧ N ≤ 112) ∨ (112 < N ∧ l.length = 112)) (hNc : N ≤ ca) (hNm : ca ≤ 9223372036854775807) (ht : SlOf w (enInt .i64) 1 b cb ats) (ha : ∀ x ∈ ats, -9223372036854775808 ≤ x ∧ x ≤ 9223372036854775807) :
    Calls Try.prog 8 #[.slice a N ca, .slice b ats.length cb] w fun e w' => e = .returned (.bool true) ∧ Below w.heap.size w w' := by
  have hl2 := ht.len
  have hl : l.length ≤ 112 := by omega
  go_enter Try.func8, Try.ntmps8
  go_upto_if 16 with (fail)
  go_cut [0] (fun v w' => v = .slice a l.length ca ∧ w = w')
  case first =>
    rcases hN with ⟨rfl, h2⟩ | ⟨h1, h2⟩
    · go_wp2_with fail
      go_meet
      exact ⟨rfl, rfl⟩
    · go_wp2_with fail
      go_meet
      exact ⟨by rw [h2], rfl⟩
  obtain ⟨rfl, rfl⟩ := hcut
  clear hN hNc hNm
  go_wp2_with fail
  go_loopw [5, 6] (fun v i wr => ∃ k : Nat, k ≤ l.length ∧ i = .int .i64 k ∧ Owns wr w.heap.size 4 1 enBool v (l.take k) ∧ Below w.heap.size w wr) (fun _ i _ => l.length - (intOf i).toNat)
  case atStart => exact ⟨0, Nat.zero_le _, rfl, Owns.nil _ _ _ _ _, Below.refl _ _⟩
  case round =>
    obtain ⟨k, hk, rfl, hown, hbel⟩ := hrel
    by_cases hlt : k < l.length
    · obtain ⟨b, o, rfl, hb, hc⟩ := SlB.at (hs.keep hbel (Nat.le_refl _)) hlt
      go_wp2_with (at_builtin; go_loud (refine wpList_append_elem bools_ty (l.take k) l[k] hown hbel (Nat.le_refl _) (by simp; omega) ?_))
      intro v' w1 hown1 hb1
      clear hown hbel hc
      go_wp2
      go_roundw
      case rel => exact ⟨k + 1, by omega, by go_num, hown1, hb1⟩
      case measure => simp [intOf]; omega
    · have : k = l.length := by omega
      subst this
      rw [List.take_length] at hown
      obtain ⟨va, vc, rfl, _⟩ := hown.shape
      go_wp2_with fail
      go_loopw [7, 8] (fun i _ wr' => ∃ (j : Nat) (M : List Bool), j ≤ ats.length ∧ i = .int .i64 j ∧ M.length = l.length ∧ Owns wr' w.heap.size 4 1 enBool (.slice va l.length vc) M ∧ Below w.heap.size w wr') (fun i _ _ => ats.length - (intOf i).toNat)
      case atStart => exact ⟨0, l, by omega, rfl, rfl, hown, hbel⟩
      case round =>
        obtain ⟨j, M, hj, rfl, hM, hown2, hbel2⟩ := hrel
        by_cases hlt : j < ats.length ∧ 0 < l.length
        · obtain ⟨hlt, hpos⟩ := hlt
          obtain ⟨g, c, e, hg, hgs, hle, hmx⟩ := hown2.block (by omega)
          simp only [Value.slice.injEq] at e
          obtain ⟨rfl, he, rfl⟩ := e
          clear he
          obtain ⟨bb, ob, rfl, hbb, hcb⟩ := SlOf.cell1 (ht.keep hbel2 (Nat.le_refl _)) (Value.int .i64) (fun _ => rfl) hlt
          have hbd := ha ats[j] (List.getElem_mem hlt)
          go_wp2_with fail
          refine (pick_any ats[j] l.length _ hbd (by omega)).mono ?_
          rintro e _ ⟨rfl, rfl⟩
          have hp1 := pickN_lo ats[j] l.length
          have hp2 := pickN_hi ats[j] l.length (by omega)
          generalize pickN ats[j] l.length = p at *
          obtain ⟨q, rfl⟩ := Int.eq_ofNat_of_zero_le hp1
          have hq : q < M.length := by omega
          obtain ⟨b', o', e, hb', hc'⟩ := SlB.at (k := q) hown2.sl.2 hq
          cases e
          rw [Nat.zero_add] at hc'
          have hfree := hown2.free q
          have hset := hown2.set1b (k := q) (!M[q]) hq
          go_wp2_with fail
          go_roundw
          case rel => exact ⟨j + 1, M.set q (!M[q]), by omega, by go_num, by simp [hM], hset, hbel2.setCell hg _⟩
          case measure => simp [intOf]; omega
        · by_cases hlt2 : j < ats.length
          all_goals
            have hpos : l.length = 0 ∨ ¬ j < ats.length := by omega
            clear hlt hown hbel
            go_wp2_with fail
            refine (with20_any l _ _ _ (hs.keep hbel2 (Nat.le_refl _)) (by omega)).mono ?_
            rintro e w2 ⟨v2, rfl, hb2, ho2⟩
            have hb3 := bstep hbel2 hb2 (Nat.le_refl _)
            obtain ⟨xa, xc, rfl, hsx⟩ := ho2.shape
            have hsm := hown2.sl.2.keep hb2 (Nat.le_refl _)
            go_wp2_with fail
            refine (with20_n M _ _ _ _ hsm (by omega) hM.symm).mono ?_
            rintro e w3 ⟨v3, rfl, hb4, ho4⟩
            have hb5 := bstep hb3 hb4 (Nat.le_refl _)
            obtain ⟨ya, yc, rfl, hsy⟩ := ho4.shape
            have hsx2 := hsx.keep hb4 (Nat.le_refl _)
            have hXl : (withN l).length = l.length + 15 := by simp [withN, sumBits_len]
            have hYl : (withN M).length = l.length + 15 := by simp [withN, sumBits_len, hM]
            clear hsx hsm ho2 ho4 hown2 hbel2 hb2 hb3 hb4
            rw [hXl, hYl]
            have HM := Lib.hid hM
            have HX := Lib.hid hXl
            have HY := Lib.hid hYl
            clear hM hXl hYl
            go_wp2_with fail
            go_loopw [11, 12, 13] (fun s n i wq => ∃ k : Nat, k ≤ l.length + 15 ∧ i = .int .i64 k ∧ s = .bool ((List.zipWith (· ^^ ·) (l.take k) (M.take k)).count true == 0) ∧
                n = .int .i64 (((List.zipWith (· ^^ ·) ((withN l).take k) ((withN M).take k)).count true : Nat) : Int) ∧ Below w3.heap.size w3 wq) (fun _ _ i _ => l.length + 15 - (intOf i).toNat)
            case atStart => exact ⟨0, by omega, rfl, rfl, rfl, Below.refl _ _⟩
            case round =>
              obtain ⟨k, hk, rfl, rfl, rfl, hbq⟩ := hrel
              by_cases hlt3 : k < l.length + 15
              · have hcx := zip_take_count (withN l) (withN M) (by rw [HX.out, HY.out]) k (by rw [HX.out]; exact hlt3)
                obtain ⟨bx, ox, rfl, hbx, hx⟩ := SlB.at (k := k) (hsx2.keep hbq (Nat.le_refl _)) (by rw [HX.out]; exact hlt3)
                obtain ⟨by', oy, rfl, hby, hy⟩ := SlB.at (k := k) (hsy.keep hbq (Nat.le_refl _)) (by rw [HY.out]; exact hlt3)
                have hpre : k < l.length → ((List.zipWith (· ^^ ·) (l.take (k + 1)) (M.take (k + 1))).count true = (List.zipWith (· ^^ ·) (l.take k) (M.take k)).count true + (if ((withN l)[k]'(by rw [HX.out]; exact hlt3) == (withN M)[k]'(by rw [HY.out]; exact hlt3)) = true then 0 else 1)) := by
                  intro h
                  rw [zip_take_count l M HM.out.symm k h]
                  simp only [withN, List.getElem_append_left h, List.getElem_append_left (show k < M.length by rw [HM.out]; exact h)]
                have hbeh : ¬ k < l.length → ((List.zipWith (· ^^ ·) (l.take (k + 1)) (M.take (k + 1))).count true = (List.zipWith (· ^^ ·) (l.take k) (M.take k)).count true) := by
                  intro h
                  have h5 := HM.out
                  rw [List.take_of_length_le (by omega), List.take_of_length_le (by omega), List.take_of_length_le (by omega), List.take_of_length_le (by omega)]
                have hcle : (List.zipWith (· ^^ ·) ((withN l).take k) ((withN M).take k)).count true ≤ 127 := Nat.le_trans List.count_le_length (by simp; omega)
                generalize (withN l)[k]'(by rw [HX.out]; exact hlt3) = x at *
                generalize (withN M)[k]'(by rw [HY.out]; exact hlt3) = y at *
                generalize (List.zipWith (· ^^ ·) ((withN l).take k) ((withN M).take k)).count true = n at *
                have HC := Lib.hid hcx
                have HP := Lib.hid hpre
                have HB := Lib.hid hbeh
                clear hcx hpre hbeh
                cases hq : (x == y) with
                | true =>
                  have HQ := Lib.hid hq
                  go_wp2_with fail
                  go_quiet (fail)
                  go_wp2_with fail
                  go_roundw
                  case rel =>
                    refine ⟨k + 1, by omega, by go_num, ?_, ?_, below_drewN hbq _⟩
                    · congr 2
                      by_cases h6 : k < l.length
                      · rw [HP.out h6, if_pos HQ.out]; rfl
                      · rw [HB.out h6]
                    · rw [HC.out, if_pos HQ.out]; rfl
                  case measure => simp [intOf]; omega
                | false =>
                  have HQ := Lib.hid hq
                  generalize hsm : (List.zipWith (· ^^ ·) (l.take k) (M.take k)).count true = sm at *
                  by_cases h6 : k < l.length
                  all_goals
                    cases hs0 : (sm == 0)
                    all_goals
                      have HS := Lib.hid hs0
                      have HSM := Lib.hid hsm
                      clear hsm
                      have hd : decide (l.length ≤ k) = decide (¬ k < l.length) := decide_eq_decide.2 (by omega)
                      first | rw [decide_eq_false (show ¬ ¬ k < l.length from fun h => h h6)] at hd | rw [decide_eq_true h6] at hd
                      go_wp2_with fail
                      all_goals
                        go_quiet (fail)
                        go_wp2_with fail
                        go_roundw
                        case rel =>
                          refine ⟨k + 1, by omega, by go_num, ?_, ?_, below_drewN hbq _⟩
                          · congr 1
                            have hss := HS.out
                            first
                              | (rw [HP.out h6, if_neg (by rw [HQ.out]; decide)]; rfl)
                              | (rw [HB.out h6]; exact hss.symm)
                          · rw [HC.out, if_neg (by rw [HQ.out]; decide)]; go_num
                        case measure => simp [intOf] <;> omega
              · obtain rfl : k = l.length + 15 := by omega
                have h5 := HM.out
                rw [List.take_of_length_le (by omega), List.take_of_length_le (by omega), List.take_of_length_le (by rw [HX.out]; omega), List.take_of_length_le (by rw [HY.out]; omega)]
                have hb7 := bstep hb5 hbq (Nat.le_refl _)
                clear h5
                have hcle : (List.zipWith (· ^^ ·) (withN l) (withN M)).count true ≤ 127 := Nat.le_trans List.count_le_length (by simp [HX.out, HY.out]; omega)
                have hfin : (List.zipWith (· ^^ ·) (withN l) (withN M)).count true = 0 ∨ ((List.zipWith (· ^^ ·) l M).count true == 0) = false ∧ 6 ≤ (List.zipWith (· ^^ ·) (withN l) (withN M)).count true := by
                  by_cases e : l = M
                  · subst e; exact .inl (same_places l)
                  · have hm2 := HM.out
                    refine .inr ⟨?_, six_places l M hm2.symm (by omega) e⟩
                    have := List.count_pos_iff.2 (zip_true hm2.symm e)
                    rw [beq_eq_false_iff_ne]
                    omega
                generalize (List.zipWith (· ^^ ·) (withN l) (withN M)).count true = n at *
                generalize ((List.zipWith (· ^^ ·) l M).count true == 0) = sm at *
                rcases hfin with rfl | ⟨rfl, h6⟩
                · go_wp2_with fail
                  refine (works20_any _).mono ?_
                  rintro e w5 ⟨rfl, hb8⟩
                  go_wp2_with fail
                  go_ret
                  exact ⟨rfl, bstep hb7 hb8 (Nat.le_refl _)⟩
                · have hn0 : ((n : Int) == 0) = false := by rw [beq_eq_false_iff_ne]; omega
                  have hn6 : (6 : Int) ≤ (n : Int) := by omega
                  go_wp2_with fail
                  refine (works20_any _).mono ?_
                  rintro e w5 ⟨rfl, hb8⟩
                  go_wp2_with fail
                  go_ret
                  exact ⟨rfl, bstep hb7 hb8 (Nat.le_refl _)⟩

theorem crcSix_top (l : List Bool) (ats : List Int) (a b : Option Addr) (ca cb : Nat) (w : World) (hs : SlB w a ca l) (ht : SlOf w (enInt .i64) 1 b cb ats) (ha : ∀ x ∈ ats, -9223372036854775808 ≤ x ∧ x ≤ 9223372036854775807) :
    Calls Try.prog 8 #[.slice a l.length ca, .slice b ats.length cb] w fun e w' => e = .returned (.bool true) ∧ Below w.heap.size w w' := by
  have h := hs.len
  by_cases hl : l.length ≤ 112
  · exact crcSix_walk l.length l ats a b ca cb w hs (.inl ⟨rfl, hl⟩) h.1 h.2.2 ht ha
  · have hp : SlB w a ca (l.take 112) := by
      have := hs
      rw [← List.take_append_drop 112 l] at this
      exact SlOf.pre this (fun _ => rfl)
    exact crcSix_walk l.length (l.take 112) ats a b ca cb w hp (.inr ⟨by omega, by simp; omega⟩) h.1 h.2.2 ht ha

theorem crcBurst_top (l : List Bool) (at' mask : Int) (a : Option Addr) (cap : Nat) (w : World) (hs : SlB w a cap l) (hr : l.length ≤ 140737488351232) (ha : -9223372036854775808 ≤ at' ∧ at' ≤ 9223372036854775807) (hm : 0 ≤ mask ∧ mask ≤ 65535) :
    Calls Try.prog 9 #[.slice a l.length cap, .int .i64 at', .int .u16 mask] w fun e w' => e = .returned (.bool true) ∧ Below w.heap.size w w' := by
  obtain ⟨m, rfl⟩ := Int.eq_ofNat_of_zero_le hm.1
  exact crcBurst_walk l at' m a cap w hs hr ha (by omega)
end Go.Proofs.Ytflghgilcooiiaa
