/-
  Contracts of the crc package's loops, of the reference's, and of the lists of bools that the statements lend.
-/
import Derived.Test.YtflghgilcooiiaaCrcA
import Derived.Deep.QuietTactic
import Derived.BigQuiet
namespace Go.Proofs.Ytflghgilcooiiaa
set_option linter.unusedVariables false
open Go.RowKit

theorem take_snoc' {α : Type} (l : List α) (k : Nat) (h : k < l.length) : l.take (k + 1) = l.take k ++ [l[k]] := by
  rw [List.take_succ_eq_append_getElem h]

theorem bools_ty : SlTy Try.prog 32 4 1 1 := SlTy.mk' (.bool false) Try.underlying32 (by kernel_rfl) rfl (by decide) (by decide)

/-- a list of bools at hand -/
abbrev SlB (w : World) (a : Option Addr) (cap : Nat) (l : List Bool) : Prop := SlOf w enBool 1 a cap l

theorem SlB.at {w : World} {a : Option Addr} {cap : Nat} {l : List Bool} (h : SlB w a cap l) {k : Nat} (hk : k < l.length) : ∃ b o, a = some ⟨b, o, none⟩ ∧ b < w.heap.size ∧ w.cell? ⟨b, o + k, none⟩ = some (.bool l[k]) :=
  SlOf.cell1 h Value.bool (fun _ => rfl) hk

set_option maxHeartbeats 400000 in
theorem crcsum_any (l : List Bool) (a : Option Addr) (cap : Nat) (w : World) (hs : SlB w a cap l) :
    Calls Try.prog 18 #[.slice a l.length cap] w fun e w' => e = .returned (.int .u16 (crcN l)) ∧ Below w.heap.size w w' := by
  have hm' := hs.len.2.1
  go_enter Try.func18, Try.ntmps18
  go_wp2_with (go_at_call 21; refine (crcnew_any _).mono ?_; rintro e w' ⟨rfl, rfl⟩)
  go_loopw [5, 9] (fun _ i wr => ∃ k : Nat, k ≤ l.length ∧ i = .int .i64 k ∧ wr = w.alloc (.cells #[.int .u16 (crcN (l.take k))] 44)) (fun _ i _ => l.length - (intOf i).toNat)
  case atStart => exact ⟨0, Nat.zero_le _, rfl, rfl⟩
  case round =>
    obtain ⟨k, hk, rfl, rfl⟩ := hrel
    by_cases hlt : k < l.length
    · obtain ⟨b, o, rfl, hb, hc⟩ := hs.at hlt
      have hlt2 := crcN_lt (l.take k)
      have HS : Hid (crcN (l.take (k + 1)) = nx (crcN (l.take k)) l[k]) := by rw [take_snoc' l k hlt]; exact crcN_snoc (l.take k) l[k]
      go_wp2_with (go_at_call 23; refine (add_any _ hlt2 _ _ _ _ (by go_simp) (by go_simp)).mono ?_; rintro e w' ⟨rfl, rfl⟩)
      go_roundw
      case rel => exact ⟨k + 1, by omega, by go_num, by rw [HS.out]⟩
      case measure => simp [intOf]; omega
    · have : k = l.length := by omega
      subst this
      go_wp2_with (go_at_call 22; refine (regsum_any (crcN l) _ _ _ (by go_simp)).mono ?_; rintro e w' ⟨rfl, rfl⟩)
      go_ret
      exact ⟨rfl, (Below.refl _ _).alloc (Nat.le_refl _) _⟩

theorem crcsum_n (l : List Bool) (n : Nat) (a : Option Addr) (cap : Nat) (w : World) (hs : SlB w a cap l) (hn : n = l.length) :
    Calls Try.prog 18 #[.slice a n cap] w fun e w' => e = .returned (.int .u16 (crcN l)) ∧ Below w.heap.size w w' := by
  subst hn; exact crcsum_any l a cap w hs

set_option maxHeartbeats 400000 in
theorem refsum_any (l : List Bool) (a : Option Addr) (cap : Nat) (w : World) (hs : SlB w a cap l) :
    Calls Try.prog 19 #[.slice a l.length cap] w fun e w' => e = .returned (.int .u16 (crcN l)) ∧ w = w' := by
  have hm' := hs.len.2.1
  go_enter Try.func19, Try.ntmps19
  go_wp2_with fail
  go_loop [3, 4] (fun r i => ∃ k : Nat, k ≤ l.length ∧ i = .int .i64 k ∧ r = .int .u16 (crcN (l.take k))) (fun _ i => l.length - (intOf i).toNat)
  case atStart => exact ⟨0, Nat.zero_le _, rfl, rfl⟩
  case round =>
    obtain ⟨k, hk, rfl, rfl⟩ := hrel
    by_cases hlt : k < l.length
    · obtain ⟨b, o, rfl, hb, hc⟩ := hs.at hlt
      have hlt2 := crcN_lt (l.take k)
      have HS : Hid (crcN (l.take (k + 1)) = nx (crcN (l.take k)) l[k]) := by rw [take_snoc' l k hlt]; exact crcN_snoc (l.take k) l[k]
      go_wp2_with (go_at_call 24; refine (next_any _ hlt2 _ _).mono ?_; rintro e w' ⟨rfl, rfl⟩)
      go_round
      case rel => exact ⟨k + 1, by omega, by go_num, by rw [HS.out]⟩
      case measure => simp [intOf]; omega
    · have : k = l.length := by omega
      subst this
      go_wp2_with fail
      go_ret
      exact ⟨ret_int (by simp), rfl⟩

/-- the marks behind a lent list of bools -/
def marksB (n : Nat) : List Bool := (List.range n).map fun i : Nat => ((i : Int) % 3 == 0)
theorem marksB_snoc (k : Nat) : marksB (k + 1) = marksB k ++ [((k : Int) % 3 == 0)] := by simp [marksB, List.range_succ]
theorem marksB_len (k : Nat) : (marksB k).length = k := by simp [marksB]
theorem marksB_get (k i : Nat) (h : i < (marksB k).length) : (marksB k)[i] = ((i : Int) % 3 == 0) := by simp [marksB]

set_option maxHeartbeats 400000 in
theorem lentBools_any (l : List Bool) (a : Option Addr) (cap : Nat) (w : World) (hs : SlB w a cap l) (hr : l.length ≤ 140737488351232) :
    Calls Try.prog 17 #[.slice a l.length cap] w fun e w' => ∃ g c, e = .returned (.slice (some ⟨g, 0, none⟩) l.length c) ∧ Below w.heap.size w w' ∧
      Owns w' w.heap.size 4 1 enBool (.slice (some ⟨g, 0, none⟩) (l.length + 16) c) (l ++ marksB 16) := by
  go_enter Try.func17, Try.ntmps17
  go_wp2_with fail
  go_loopw [3, 4] (fun v i wr => ∃ k : Nat, k ≤ l.length ∧ i = .int .i64 k ∧ Owns wr w.heap.size 4 1 enBool v (l.take k) ∧ Below w.heap.size w wr) (fun _ i _ => l.length - (intOf i).toNat)
  case atStart => exact ⟨0, Nat.zero_le _, rfl, Owns.nil _ _ _ _ _, Below.refl _ _⟩
  case round =>
    obtain ⟨k, hk, rfl, hown, hbel⟩ := hrel
    by_cases hlt : k < l.length
    · obtain ⟨b, o, rfl, hb, hc⟩ := SlB.at (hs.keep hbel (Nat.le_refl _)) hlt
      go_wp2_with (at_builtin; go_loud (refine wpList_append_elem bools_ty (l.take k) l[k] hown hbel (Nat.le_refl _) (by simp; omega) ?_))
      intro v' w1 hown1 hb1
      clear hown hbel hc
      go_wp2
      go_roundw
      case rel => exact ⟨k + 1, by omega, by go_num, hown1, hb1⟩
      case measure => simp [intOf]; omega
    · have : k = l.length := by omega
      subst this
      rw [List.take_length] at hown
      go_wp2_with fail
      go_loopw [3, 5] (fun v i wr' => ∃ k : Nat, k ≤ 16 ∧ i = .int .i64 k ∧ Owns wr' w.heap.size 4 1 enBool v (l ++ marksB k) ∧ Below w.heap.size w wr') (fun _ i _ => 16 - (intOf i).toNat)
      case atStart => exact ⟨0, by omega, rfl, by simpa [marksB] using hown, hbel⟩
      case round =>
        obtain ⟨k, hk, rfl, hown2, hbel2⟩ := hrel
        by_cases hlt : k < 16
        · go_wp2_with (at_builtin; go_loud (refine wpList_append_elem bools_ty (l ++ marksB k) ((k : Int) % 3 == 0) hown2 hbel2 (Nat.le_refl _) (by simp [marksB_len]; omega) ?_))
          intro v' w1 hown1 hb1
          clear hown2 hbel2 hown hbel
          go_wp2
          go_roundw
          case rel => exact ⟨k + 1, by omega, by go_num, by rw [marksB_snoc]; exact hown1, hb1⟩
          case measure => simp [intOf]; omega
        · obtain rfl : k = 16 := by omega
          obtain ⟨g, c, rfl, hg, hgs, hle, hmx⟩ := hown2.block (by simp [marksB_len])
          simp only [List.length_append, marksB_len] at hown2 hle ⊢
          go_wp2_with fail
          go_ret
          exact ⟨g, c, rfl, hbel2, hown2⟩

set_option maxHeartbeats 400000 in
theorem keptBools_any (l : List Bool) (a : Option Addr) (cap g o c : Nat) (w : World) (hs : SlB w a cap l) (ho : SlB w (some ⟨g, o, none⟩) c (l ++ marksB 16)) :
    Calls Try.prog 20 #[.slice (some ⟨g, o, none⟩) l.length c, .slice a l.length cap] w fun e w' => e = .returned (.bool true) ∧ Below w.heap.size w w' := by
  have h1 := hs.len
  have h2 := ho.len
  simp only [List.length_append, marksB_len] at h2
  go_enter Try.func20, Try.ntmps20
  go_wp2_with fail
  go_loopw [4, 7] (fun _ i wr => ∃ k : Nat, k ≤ l.length ∧ i = .int .i64 k ∧ Below w.heap.size w wr) (fun _ i _ => l.length - (intOf i).toNat)
  case atStart => exact ⟨0, Nat.zero_le _, rfl, Below.refl _ _⟩
  case round =>
    obtain ⟨k, hk, rfl, hbel⟩ := hrel
    by_cases hlt : k < l.length
    · obtain ⟨b, o', rfl, hb, hc⟩ := SlB.at (hs.keep hbel (Nat.le_refl _)) hlt
      obtain ⟨_, _, e, _, hc2⟩ := SlB.at (ho.keep hbel (Nat.le_refl _)) (k := k) (by simp; omega)
      cases e
      rw [List.getElem_append_left hlt] at hc2
      go_wp2_with fail
      go_quiet (fail)
      go_wp2_with fail
      go_roundw
      case rel => exact ⟨k + 1, by omega, by go_num, below_drewN hbel _⟩
      case measure => simp [intOf]; omega
    · have : k = l.length := by omega
      subst this
      go_wp2_with fail
      go_loopw [4, 8] (fun _ i wr' => ∃ k : Nat, k ≤ 16 ∧ i = .int .i64 ((l.length + k : Nat) : Int) ∧ Below w.heap.size w wr') (fun _ i _ => l.length + 16 - (intOf i).toNat)
      case atStart => exact ⟨0, by omega, rfl, hbel⟩
      case round =>
        obtain ⟨k, hk, rfl, hbel⟩ := hrel
        by_cases hlt : k < 16
        · obtain ⟨_, _, e, _, hc2⟩ := SlB.at (ho.keep hbel (Nat.le_refl _)) (k := l.length + k) (by simp [marksB_len]; omega)
          cases e
          rw [List.getElem_append_right (by omega), marksB_get] at hc2
          rw [show l.length + k - l.length = k by omega, show ((k : Nat) : Int) = (l.length : Int) + (k : Int) - (l.length : Int) by omega] at hc2
          go_wp2_with fail
          go_roundw
          case rel => exact ⟨k + 1, by omega, by congr 1, hbel⟩
          case measure => simp [intOf]; omega
        · obtain rfl : k = 16 := by omega
          go_wp2_with fail
          go_ret
          exact ⟨rfl, hbel⟩

/-! ### the statement CrcSums -/
set_option maxHeartbeats 400000 in
theorem crcSums_walk (l : List Bool) (a : Option Addr) (cap : Nat) (w : World) (hs : SlB w a cap l) (hr : l.length ≤ 140737488351232) :
    Calls Try.prog 4 #[.slice a l.length cap] w fun e w' => e = .returned (.bool true) ∧ Below w.heap.size w w' := by
  go_enter Try.func4, Try.ntmps4
  go_wp2_with fail
  refine (lentBools_any l a cap _ hs hr).mono ?_
  rintro e w1 ⟨g, c, rfl, hb1, ho1⟩
  have hs1 := ho1.sl.2
  clear ho1
  go_wp2_with fail
  refine (crcsum_any l _ _ _ (hs1.pre (fun _ => rfl))).mono ?_
  rintro e w2 ⟨rfl, hb2⟩
  have hb3 := bstep hb1 hb2 (Nat.le_refl _)
  go_wp2_with fail
  refine (refsum_any l _ _ _ (hs.keep hb3 (Nat.le_refl _))).mono ?_
  rintro e _ ⟨rfl, rfl⟩
  go_wp2_with fail
  refine (keptBools_any l _ _ _ _ _ _ (hs.keep hb3 (Nat.le_refl _)) (hs1.keep hb2 (Nat.le_refl _))).mono ?_
  rintro e w4 ⟨rfl, hb4⟩
  go_wp2_with fail
  go_ret
  exact ⟨rfl, bstep hb3 hb4 (Nat.le_refl _)⟩
end Go.Proofs.Ytflghgilcooiiaa
