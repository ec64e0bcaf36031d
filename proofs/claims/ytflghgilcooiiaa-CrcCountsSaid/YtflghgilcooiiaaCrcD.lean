/-
  The walk of CrcCounts.
-/
import Derived.Test.YtflghgilcooiiaaCrcC
namespace Go.Proofs.Ytflghgilcooiiaa
set_option linter.unusedVariables false
open Go.RowKit

set_option maxRecDepth 100000 in
set_option maxHeartbeats 1000000 in
theorem crcCounts_walk (l m : List Bool) (a b : Option Addr) (p q : Nat) (w : World) (hs : SlB w a p l) (ht : SlB w b q m) :
    Calls Try.prog 5 #[.slice a l.length p, .slice b m.length q] w fun e w' => e = .returned (.bool true) ∧ Below w.heap.size w w' := by
  have hl1 := hs.len
  have hl2 := ht.len
  go_enter Try.func5, Try.ntmps5
  go_wp2_with (first | (go_at_call 21; refine (crcnew_any _).mono ?_; rintro e w' ⟨rfl, rfl⟩) | (go_at_call 22; refine (regsum_any 0 _ _ _ (by go_simp)).mono ?_; rintro e w' ⟨rfl, rfl⟩))
  go_loopw [7, 8, 9] (fun r s i wr => ∃ k : Nat, (k ≤ l.length ∨ k ≤ m.length) ∧ i = .int .i64 k ∧ r = .int .u16 (crcN (l.take k)) ∧ s = .int .u16 (crcN (m.take k)) ∧ Below w.heap.size w wr ∧
      wr.cell? ⟨w.heap.size, 0, none⟩ = some (.int .u16 (crcN (l.take k))) ∧ wr.frozen? ⟨w.heap.size, 0, none⟩ = false ∧
      wr.cell? ⟨w.heap.size + 1, 0, none⟩ = some (.int .u16 (crcN (m.take k))) ∧ wr.frozen? ⟨w.heap.size + 1, 0, none⟩ = false) (fun _ _ i _ => l.length + m.length - (intOf i).toNat)
  case atStart => exact ⟨0, by omega, rfl, rfl, rfl, ((Below.refl _ _).alloc (Nat.le_refl _) _).alloc (by simp) _, by go_simp; rfl, by go_simp, by go_simp; rfl, by go_simp⟩
  case round =>
    obtain ⟨k, hk, rfl, rfl, rfl, hbel, hx, hfx, hy, hfy⟩ := hrel
    have hx15 := crcN_lt (l.take k)
    have hy15 := crcN_lt (m.take k)
    by_cases hlt1 : k < l.length
    · by_cases hlt2 : k < m.length
      · obtain ⟨ba, oa, rfl, hba, hca⟩ := SlB.at hs hlt1
        have hca' : wr.cell? ⟨ba, oa + k, none⟩ = some (.bool l[k]) := by rw [hbel.cell (p := ⟨ba, oa + k, none⟩) hba]; exact hca
        have hna1 : ba ≠ w.heap.size := by omega
        have hna2 : ba ≠ w.heap.size + 1 := by omega
        have Ha : Hid (crcN (l.take (k + 1)) = nx (crcN (l.take k)) l[k]) := by show _ = _; rw [take_snoc' l k hlt1]; exact crcN_snoc (l.take k) l[k]
        have Halt := nx_lt (crcN (l.take k)) l[k]
        generalize crcN (l.take k) = ca at *
        clear hca
        obtain ⟨bb, ob, rfl, hbb, hcb⟩ := SlB.at ht hlt2
        have hcb' : wr.cell? ⟨bb, ob + k, none⟩ = some (.bool m[k]) := by rw [hbel.cell (p := ⟨bb, ob + k, none⟩) hbb]; exact hcb
        have hnb1 : bb ≠ w.heap.size := by omega
        have hnb2 : bb ≠ w.heap.size + 1 := by omega
        have Hb : Hid (crcN (m.take (k + 1)) = nx (crcN (m.take k)) m[k]) := by show _ = _; rw [take_snoc' m k hlt2]; exact crcN_snoc (m.take k) m[k]
        have Hblt := nx_lt (crcN (m.take k)) m[k]
        generalize crcN (m.take k) = cb at *
        clear hcb
        have ha15 := hx15
        have hb15 := hy15
        go_wp2_with fail
        go_region_with (go_at_call 23; refine (add_any ca ha15 _ _ _ _ (by go_simp) (by go_simp)).mono ?_; rintro e w' ⟨rfl, rfl⟩)
        go_wp2_with (go_at_call 24; refine (next_any ca ha15 _ _).mono ?_; rintro e w' ⟨rfl, rfl⟩)
        go_wp2_with fail
        go_region_with (go_at_call 23; refine (add_any cb hb15 _ _ _ _ (by go_simp) (by go_simp)).mono ?_; rintro e w' ⟨rfl, rfl⟩)
        go_wp2_with (go_at_call 24; refine (next_any cb hb15 _ _).mono ?_; rintro e w' ⟨rfl, rfl⟩)
        go_wp2_with fail
        refine (regsum_any (nx ca l[k]) _ _ _ (by go_simp)).mono ?_
        rintro e w' ⟨rfl, rfl⟩
        go_wp2_with fail
        refine (regsum_any (nx cb m[k]) _ _ _ (by go_simp)).mono ?_
        rintro e w' ⟨rfl, rfl⟩
        go_wp2_with fail
        refine (regsum_any (nx ca l[k]) _ _ _ (by go_simp)).mono ?_
        rintro e w' ⟨rfl, rfl⟩
        clear Halt Hblt
        go_wp2_with fail
        go_roundw
        case rel => exact ⟨k + 1, by omega, by go_num, by rw [Ha.out], by rw [Hb.out], (((hbel.setCell (Nat.le_refl _) _).drew).setCell (by simp) _).drew, by rw [Ha.out]; go_simp, by go_simp, by rw [Hb.out]; go_simp, by go_simp⟩
        case measure => simp [intOf]; omega
      · clear hk
        have hk : k ≤ l.length := by omega
        obtain ⟨ba, oa, rfl, hba, hca⟩ := SlB.at hs hlt1
        have hca' : wr.cell? ⟨ba, oa + k, none⟩ = some (.bool l[k]) := by rw [hbel.cell (p := ⟨ba, oa + k, none⟩) hba]; exact hca
        have hna1 : ba ≠ w.heap.size := by omega
        have hna2 : ba ≠ w.heap.size + 1 := by omega
        have Ha : Hid (crcN (l.take (k + 1)) = nx (crcN (l.take k)) l[k]) := by show _ = _; rw [take_snoc' l k hlt1]; exact crcN_snoc (l.take k) l[k]
        generalize crcN (l.take k) = ca at *
        clear hca
        have Hb : Hid (crcN (m.take (k + 1)) = crcN (m.take k)) := by show _ = _; rw [List.take_of_length_le (by omega), List.take_of_length_le (by omega)]
        generalize crcN (m.take k) = cb at *
        go_wp2_with fail
        go_region_with (go_at_call 23; refine (add_any ca hx15 _ _ _ _ (by go_simp) (by go_simp)).mono ?_; rintro e w' ⟨rfl, rfl⟩)
        go_wp2_with (go_at_call 24; refine (next_any ca hx15 _ _).mono ?_; rintro e w' ⟨rfl, rfl⟩)
        go_wp2_with fail
        refine (regsum_any (nx ca l[k]) _ _ _ (by go_simp)).mono ?_
        rintro e w' ⟨rfl, rfl⟩
        go_wp2_with fail
        refine (regsum_any (cb) _ _ _ (by go_simp)).mono ?_
        rintro e w' ⟨rfl, rfl⟩
        go_wp2_with fail
        refine (regsum_any (nx ca l[k]) _ _ _ (by go_simp)).mono ?_
        rintro e w' ⟨rfl, rfl⟩
        go_wp2_with fail
        go_roundw
        case rel => exact ⟨k + 1, by omega, by go_num, by rw [Ha.out], by rw [Hb.out], (hbel.setCell (Nat.le_refl _) _).drew, by rw [Ha.out]; go_simp, by go_simp, by rw [Hb.out]; go_simp, by go_simp⟩
        case measure => simp [intOf]; omega
    · by_cases hlt2 : k < m.length
      · clear hk
        have hk : k ≤ m.length := by omega
        obtain ⟨bb, ob, rfl, hbb, hcb⟩ := SlB.at ht hlt2
        have hcb' : wr.cell? ⟨bb, ob + k, none⟩ = some (.bool m[k]) := by rw [hbel.cell (p := ⟨bb, ob + k, none⟩) hbb]; exact hcb
        have hnb1 : bb ≠ w.heap.size := by omega
        have hnb2 : bb ≠ w.heap.size + 1 := by omega
        have Hb : Hid (crcN (m.take (k + 1)) = nx (crcN (m.take k)) m[k]) := by show _ = _; rw [take_snoc' m k hlt2]; exact crcN_snoc (m.take k) m[k]
        generalize crcN (m.take k) = cb at *
        clear hcb
        have Ha : Hid (crcN (l.take (k + 1)) = crcN (l.take k)) := by show _ = _; rw [List.take_of_length_le (by omega), List.take_of_length_le (by omega)]
        generalize crcN (l.take k) = ca at *
        go_wp2_with fail
        go_region_with (go_at_call 23; refine (add_any cb hy15 _ _ _ _ (by go_simp) (by go_simp)).mono ?_; rintro e w' ⟨rfl, rfl⟩)
        go_wp2_with (go_at_call 24; refine (next_any cb hy15 _ _).mono ?_; rintro e w' ⟨rfl, rfl⟩)
        go_wp2_with fail
        refine (regsum_any (ca) _ _ _ (by go_simp)).mono ?_
        rintro e w' ⟨rfl, rfl⟩
        go_wp2_with fail
        refine (regsum_any (nx cb m[k]) _ _ _ (by go_simp)).mono ?_
        rintro e w' ⟨rfl, rfl⟩
        go_wp2_with fail
        refine (regsum_any (ca) _ _ _ (by go_simp)).mono ?_
        rintro e w' ⟨rfl, rfl⟩
        go_wp2_with fail
        go_roundw
        case rel => exact ⟨k + 1, by omega, by go_num, by rw [Ha.out], by rw [Hb.out], (hbel.setCell (by simp) _).drew, by rw [Ha.out]; go_simp, by go_simp, by rw [Hb.out]; go_simp, by go_simp⟩
        case measure => simp [intOf]; omega
      · have hk1 : l.take k = l := List.take_of_length_le (by omega)
        have hk2 : m.take k = m := List.take_of_length_le (by omega)
        rw [hk1] at hx hx15 ⊢
        rw [hk2] at hy hy15 ⊢
        clear hk1 hk2
        go_wp2_with fail
        refine (regsum_any (crcN l) _ _ _ (by go_simp)).mono ?_
        rintro e w' ⟨rfl, rfl⟩
        go_wp2_with fail
        refine (crcsum_any l _ _ _ (hs.keep hbel (Nat.le_refl _))).mono ?_
        rintro e w1 ⟨rfl, hb1⟩
        have hy1 : w1.cell? ⟨w.heap.size + 1, 0, none⟩ = some (.int .u16 (crcN m)) := by rw [hb1.cell (p := ⟨w.heap.size + 1, 0, none⟩) (World.block_lt_of_cell? _ _ hy)]; exact hy
        go_wp2_with fail
        refine (regsum_any (crcN m) _ _ _ (by go_simp)).mono ?_
        rintro e w' ⟨rfl, rfl⟩
        go_wp2_with fail
        refine (crcsum_any m _ _ _ (ht.keep (bstep hbel hb1 (Nat.le_refl _)) (Nat.le_refl _))).mono ?_
        rintro e w2 ⟨rfl, hb2⟩
        go_wp2_with fail
        go_ret
        exact ⟨rfl, bstep (bstep hbel hb1 (Nat.le_refl _)) hb2 (Nat.le_refl _)⟩
end Go.Proofs.Ytflghgilcooiiaa
