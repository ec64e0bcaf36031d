/-
  strings.ContainsRune at the signs: contract, at every rune.
-/
import Derived.Test.YtmifjfohanegiaaGreatDoorLexC
import Derived.Test.YtmifjfohanegiaaGreatDoorCalm
import Derived.BigQuiet
import Derived.WalkMore
namespace Go.Proofs.YtmifjfohanegiaaGreatDoor
set_option linter.unusedVariables false
open Go.RowKit Go.Shelf

def signsL : List UInt8 := [58, 124, 40, 41, 91, 93, 44, 59]
def sgU (r : Nat) : Bool := r == 58 || r == 124 || r == 40 || r == 41 || r == 91 || r == 93 || r == 44 || r == 59
theorem sg_low : (List.range 128).all (fun r => decide (0 ≤ Lib.indexByte signsL ((r : Int).toNat.toUInt8)) == sgU r) = true := by decide +kernel
theorem sgU_low {r : Nat} (h : 128 ≤ r) : sgU r = false := by
  unfold sgU
  simp only [Bool.or_eq_false_iff, beq_eq_false_iff_ne]
  omega
theorem enc_shape (r : Nat) (h1 : 128 ≤ r) (h2 : r < 55296 ∨ 57344 ≤ r) (h3 : r ≤ 1114111) :
    (∃ x b : UInt8, Utf8.encode (r : Int) = ⟨#[x, b]⟩ ∧ 128 ≤ b.toNat) ∨ (∃ x y b : UInt8, Utf8.encode (r : Int) = ⟨#[x, y, b]⟩ ∧ 128 ≤ b.toNat) ∨ (∃ x y z b : UInt8, Utf8.encode (r : Int) = ⟨#[x, y, z, b]⟩ ∧ 128 ≤ b.toNat) := by
  have hv : Utf8.valid (r : Int) = true := by unfold Utf8.valid; simp; omega
  have hb : ∀ m : Nat, m < 128 → 128 ≤ (UInt8.ofNat (128 + m)).toNat := fun m hm => by rw [UInt8.toNat_ofNat_of_lt' (by show 128 + m < 256; omega)]; omega
  unfold Utf8.encode
  simp only [hv, if_true, Int.toNat_natCast]
  rw [if_neg (by omega)]
  split
  · exact .inl ⟨_, _, rfl, hb _ (by omega)⟩
  split
  · exact .inr (.inl ⟨_, _, _, rfl, hb _ (by omega)⟩)
  · exact .inr (.inr ⟨_, _, _, _, rfl, hb _ (by omega)⟩)
theorem idx_none : ∀ (l : List UInt8) (b : UInt8), b ∉ l → Lib.indexByte l b = -1
  | [], b, _ => rfl
  | c :: l, b, h => by
    show (if (c == b) = true then _ else if (Lib.indexByte l b == -1) = true then _ else _) = _
    rw [if_neg (by rw [beq_iff_eq]; rintro rfl; exact h (List.mem_cons_self ..)), idx_none l b (fun h2 => h (List.mem_cons_of_mem _ h2)), if_pos (by decide)]
theorem signs_dec (k : Nat) (hk : k < 8) : ∃ c : Nat, c < 128 ∧ decL (signsL.drop k) = (c, 1) := by
  have hlt : k < signsL.length := hk
  rw [List.drop_eq_getElem_cons hlt]
  have : signsL[k].toNat < 128 := by
    have h : ∀ c ∈ signsL, c.toNat < 128 := by decide
    exact h _ (List.getElem_mem hlt)
  exact ⟨_, this, dec_ascii _ _ this⟩

set_option maxRecDepth 100000 in
set_option maxHeartbeats 4000000 in
theorem indexRune_hi (r : Nat) (h1 : 128 ≤ r) (h2 : r < 55296 ∨ 57344 ≤ r) (h3 : r ≤ 1114111) (w : World) :
    Calls Tryz.prog 79 #[.string ⟨#[58, 124, 40, 41, 91, 93, 44, 59]⟩, .int .i32 (r : Nat)] w fun e w' => e = .returned (.int .i64 (-1)) ∧ Below w.heap.size w w' := by
  have i0 : (0 : Int) ≤ r := by omega
  have i1 : ¬ (r : Int) < 128 := by omega
  by_cases hr : r = 65533
  · subst hr
    have hi0 := World.iter_heap w ⟨#[58, 124, 40, 41, 91, 93, 44, 59]⟩ 0
    have hb0 : Below w.heap.size w (w.iter ⟨#[58, 124, 40, 41, 91, 93, 44, 59]⟩ 0) := (Below.refl _ _).alloc (Nat.le_refl _) _
    go_enter Tryz.func79, Tryz.ntmps79
    go_wp2_with fail
    generalize w.iter ⟨#[58, 124, 40, 41, 91, 93, 44, 59]⟩ 0 = V at *
    go_loopw [] (fun wr => ∃ k : Nat, k ≤ 8 ∧ wr.heap[w.heap.size]? = some (.stringIter ⟨#[58, 124, 40, 41, 91, 93, 44, 59]⟩ k) ∧ Below w.heap.size w wr) (fun wr => 8 - wr.iterPos w.heap.size)
    case atStart => exact ⟨0, by omega, hi0, hb0⟩
    case round =>
      clear hi0 hb0
      obtain ⟨k, hk, hit, hbw⟩ := hrel
      have HM := Lib.hid (iterPos_of hit : wr.iterPos w.heap.size = k)
      by_cases hlt : k < 8
      · have hnx : ∀ ty, (Instr.next (.pointer (some ⟨w.heap.size, 0, none⟩)) true ty).run Tryz.prog wr = _ := fun ty => Lib.run_next_any_at wr w.heap.size ⟨#[58, 124, 40, 41, 91, 93, 44, 59]⟩ k ty hit hlt
        obtain ⟨c, hc, hd⟩ := signs_dec k hlt
        have hd2 : Utf8.decode ⟨#[58, 124, 40, 41, 91, 93, 44, 59]⟩ k = (c, 1) := (dec_drop signsL k).trans hd
        rw [hd2] at hnx
        have HIT := Lib.hid (Lib.iterAt_heap wr w.heap.size ⟨#[58, 124, 40, 41, 91, 93, 44, 59]⟩ k (k + 1) hit)
        have HBW := Lib.hid (Lib.below_iterAt hbw (k := w.heap.size) (Nat.le_refl _) ⟨#[58, 124, 40, 41, 91, 93, 44, 59]⟩ (k + 1))
        have g : ((c : Int) == 65533) = false := by rw [beq_eq_false_iff_ne]; omega
        simp only at hnx
        clear hd hd2 hit hbw hc
        generalize wr.iterAt w.heap.size ⟨#[58, 124, 40, 41, 91, 93, 44, 59]⟩ (k + 1) = wv at *
        go_wp2_with fail
        go_roundw
        case rel => exact ⟨k + 1, by omega, HIT.out, HBW.out⟩
        case measure => rw [iterPos_of HIT.out, HM.out]; omega
      · have hnx : ∀ ty, (Instr.next (.pointer (some ⟨w.heap.size, 0, none⟩)) true ty).run Tryz.prog wr = _ := fun ty => Lib.run_next_end_at wr w.heap.size ⟨#[58, 124, 40, 41, 91, 93, 44, 59]⟩ k ty hit hlt
        go_wp2_with fail
        go_ret
        exact ⟨rfl, hbw⟩
  · have g1 : ((r : Int) == 65533) = false := by rw [beq_eq_false_iff_ne]; omega
    have cv := fun w => Tryz.utf8_ValidRune (r : Int) w
    rw [show Lib.validRune (r : Int) = true by unfold Lib.validRune; rw [decide_eq_true_eq]; omega] at cv
    have hnot : ∀ b : UInt8, 128 ≤ b.toNat → b ∉ signsL := fun b hb h => by
      have h2 : ∀ c ∈ signsL, c.toNat < 128 := by decide
      have := h2 b h; omega
    have hsub : ∀ (b : UInt8) (j : Nat), 128 ≤ b.toNat → Lib.indexByte (signsL.drop j) b = -1 := fun b j hb => idx_none _ _ (fun h => hnot b hb (List.mem_of_mem_drop h))
    have HSUB := Lib.hid hsub
    have cib := fun (s : List UInt8) (b : UInt8) w => Tryz.strings_IndexByte ⟨s.toArray⟩ (b.toNat : Int) w
    have CIB := Lib.hid cib
    have henc := enc_shape r h1 h2 h3
    clear hsub hnot cib hr h1 h2 h3
    rcases henc with ⟨x, b, he, hb⟩ | ⟨x, y, b, he, hb⟩ | ⟨x, y, z, b, he, hb⟩
    · have ci : ∀ w, Calls Tryz.prog 113 #[.string ⟨#[40, 41, 91, 93, 44, 59]⟩, .int .u8 (b.toNat : Nat)] w fun e w' => e = .returned (.int .i64 (-1)) ∧ w' = w := fun w => by
        have h := CIB.out (signsL.drop 2) b w
        rw [show (Int.toNat (b.toNat : Int)).toUInt8 = b by rw [Int.toNat_natCast]; exact UInt8.ofNat_toNat, show (⟨(signsL.drop 2).toArray⟩ : ByteArray).data.toList = signsL.drop 2 from rfl, HSUB.out b 2 hb] at h
        exact h
      have hx : (⟨#[58, 124, 40, 41, 91, 93, 44, 59]⟩ : ByteArray).extract 2 8 = ⟨#[40, 41, 91, 93, 44, 59]⟩ := by
        have := ext_from signsL 2 (by decide)
        exact this
      have q1 : ((⟨#[58, 124, 40, 41, 91, 93, 44, 59]⟩ : ByteArray)[1]'(by decide)).toNat = 124 := rfl
      have q2 : (⟨#[x, b]⟩ : ByteArray)[1]'(Nat.lt_succ_self _) = b := rfl
      have g2 : ((124 : Int) != (b.toNat : Int)) = true := by rw [bne_iff_ne]; omega
      clear CIB HSUB
      go_enter Tryz.func79, Tryz.ntmps79
      go_wp2_with fail
      with_reducible refine (cv _).mono ?_
      rintro e w1 ⟨rfl, rfl⟩
      go_wp2_with fail
      go_step3
      go_wp2_with fail
      refine wp_loop_rounds 1 ?_
      rw [rounds_succ]
      go_wp2_with fail
      try (go_step3; go_wp2_with fail)
      refine wp_region_later0 (by kernel_rfl) (by kernel_rfl) ?_
      repeat (go_big_quiet_step (fail))
      refine wpQuiet_nil ?_
      rintro _ ⟨xx, rfl⟩
      have HB1 := Lib.hid xx.below
      generalize xx.w = w2 at *
      go_wp2_with fail
      refine wp_region_later0 (by kernel_rfl) (by kernel_rfl) ?_
      repeat (go_big_quiet_step ((go_at_call 113; with_reducible exact Later.same (ci _))))
      refine wpQuiet_nil ?_
      rintro _ ⟨xy, rfl⟩
      have HB2 := Lib.hid (bstep HB1.out xy.below (Nat.le_refl _))
      generalize xy.w = w3 at *
      go_wp2_with fail
      rw [Exit.noGoto_ret]
      go_wp2_with fail
      rw [Exit.noGoto_ret]
      go_wp2_with fail
      go_ret
      exact ⟨rfl, HB2.out⟩
    · have ci : ∀ w, Calls Tryz.prog 113 #[.string ⟨#[41, 91, 93, 44, 59]⟩, .int .u8 (b.toNat : Nat)] w fun e w' => e = .returned (.int .i64 (-1)) ∧ w' = w := fun w => by
        have h := CIB.out (signsL.drop 3) b w
        rw [show (Int.toNat (b.toNat : Int)).toUInt8 = b by rw [Int.toNat_natCast]; exact UInt8.ofNat_toNat, show (⟨(signsL.drop 3).toArray⟩ : ByteArray).data.toList = signsL.drop 3 from rfl, HSUB.out b 3 hb] at h
        exact h
      have hx : (⟨#[58, 124, 40, 41, 91, 93, 44, 59]⟩ : ByteArray).extract 3 8 = ⟨#[41, 91, 93, 44, 59]⟩ := by
        have := ext_from signsL 3 (by decide)
        exact this
      have q1 : ((⟨#[58, 124, 40, 41, 91, 93, 44, 59]⟩ : ByteArray)[2]'(by decide)).toNat = 40 := rfl
      have q2 : (⟨#[x, y, b]⟩ : ByteArray)[2]'(Nat.lt_succ_self _) = b := rfl
      have g2 : ((40 : Int) != (b.toNat : Int)) = true := by rw [bne_iff_ne]; omega
      clear CIB HSUB
      go_enter Tryz.func79, Tryz.ntmps79
      go_wp2_with fail
      with_reducible refine (cv _).mono ?_
      rintro e w1 ⟨rfl, rfl⟩
      go_wp2_with fail
      go_step3
      go_wp2_with fail
      refine wp_loop_rounds 1 ?_
      rw [rounds_succ]
      go_wp2_with fail
      try (go_step3; go_wp2_with fail)
      refine wp_region_later0 (by kernel_rfl) (by kernel_rfl) ?_
      repeat (go_big_quiet_step (fail))
      refine wpQuiet_nil ?_
      rintro _ ⟨xx, rfl⟩
      have HB1 := Lib.hid xx.below
      generalize xx.w = w2 at *
      go_wp2_with fail
      refine wp_region_later0 (by kernel_rfl) (by kernel_rfl) ?_
      repeat (go_big_quiet_step ((go_at_call 113; with_reducible exact Later.same (ci _))))
      refine wpQuiet_nil ?_
      rintro _ ⟨xy, rfl⟩
      have HB2 := Lib.hid (bstep HB1.out xy.below (Nat.le_refl _))
      generalize xy.w = w3 at *
      go_wp2_with fail
      rw [Exit.noGoto_ret]
      go_wp2_with fail
      rw [Exit.noGoto_ret]
      go_wp2_with fail
      go_ret
      exact ⟨rfl, HB2.out⟩
    · have ci : ∀ w, Calls Tryz.prog 113 #[.string ⟨#[91, 93, 44, 59]⟩, .int .u8 (b.toNat : Nat)] w fun e w' => e = .returned (.int .i64 (-1)) ∧ w' = w := fun w => by
        have h := CIB.out (signsL.drop 4) b w
        rw [show (Int.toNat (b.toNat : Int)).toUInt8 = b by rw [Int.toNat_natCast]; exact UInt8.ofNat_toNat, show (⟨(signsL.drop 4).toArray⟩ : ByteArray).data.toList = signsL.drop 4 from rfl, HSUB.out b 4 hb] at h
        exact h
      have hx : (⟨#[58, 124, 40, 41, 91, 93, 44, 59]⟩ : ByteArray).extract 4 8 = ⟨#[91, 93, 44, 59]⟩ := by
        have := ext_from signsL 4 (by decide)
        exact this
      have q1 : ((⟨#[58, 124, 40, 41, 91, 93, 44, 59]⟩ : ByteArray)[3]'(by decide)).toNat = 41 := rfl
      have q2 : (⟨#[x, y, z, b]⟩ : ByteArray)[3]'(Nat.lt_succ_self _) = b := rfl
      have g2 : ((41 : Int) != (b.toNat : Int)) = true := by rw [bne_iff_ne]; omega
      clear CIB HSUB
      go_enter Tryz.func79, Tryz.ntmps79
      go_wp2_with fail
      with_reducible refine (cv _).mono ?_
      rintro e w1 ⟨rfl, rfl⟩
      go_wp2_with fail
      go_step3
      go_wp2_with fail
      refine wp_loop_rounds 1 ?_
      rw [rounds_succ]
      go_wp2_with fail
      try (go_step3; go_wp2_with fail)
      refine wp_region_later0 (by kernel_rfl) (by kernel_rfl) ?_
      repeat (go_big_quiet_step (fail))
      refine wpQuiet_nil ?_
      rintro _ ⟨xx, rfl⟩
      have HB1 := Lib.hid xx.below
      generalize xx.w = w2 at *
      go_wp2_with fail
      refine wp_region_later0 (by kernel_rfl) (by kernel_rfl) ?_
      repeat (go_big_quiet_step ((go_at_call 113; with_reducible exact Later.same (ci _))))
      refine wpQuiet_nil ?_
      rintro _ ⟨xy, rfl⟩
      have HB2 := Lib.hid (bstep HB1.out xy.below (Nat.le_refl _))
      generalize xy.w = w3 at *
      go_wp2_with fail
      rw [Exit.noGoto_ret]
      go_wp2_with fail
      rw [Exit.noGoto_ret]
      go_wp2_with fail
      go_ret
      exact ⟨rfl, HB2.out⟩

/-- is a rune a sign of one byte? -/
theorem signs_any (r : Nat) (h2 : r < 55296 ∨ 57344 ≤ r) (h3 : r ≤ 1114111) (w : World) :
    Calls Tryz.prog 46 #[.string ⟨#[58, 124, 40, 41, 91, 93, 44, 59]⟩, .int .i32 (r : Nat)] w fun e w' => e = .returned (.bool (sgU r)) ∧ Below w.heap.size w w' := by
  by_cases h : r < 128
  · have hc := Tryz.strings_ContainsRune_ascii ⟨#[58, 124, 40, 41, 91, 93, 44, 59]⟩ (r : Int) w (by omega) (by omega)
    have hs := List.all_eq_true.1 sg_low r (List.mem_range.2 h)
    rw [beq_iff_eq] at hs
    refine hc.mono fun e w' ⟨h1, h2⟩ => ⟨?_, by rw [h2]; exact Below.refl _ _⟩
    rw [h1, ← hs]; rfl
  · have ci := indexRune_hi r (by omega) h2 h3
    rw [sgU_low (by omega)]
    clear h h2 h3
    go_enter Tryz.func46, Tryz.ntmps46
    go_wp2_with fail
    with_reducible refine (ci _).mono ?_
    rintro e w1 ⟨rfl, hb⟩
    have HB := Lib.hid hb
    clear hb
    go_wp2_with fail
    go_ret
    exact ⟨rfl, HB.out⟩
end Go.Proofs.YtmifjfohanegiaaGreatDoor
