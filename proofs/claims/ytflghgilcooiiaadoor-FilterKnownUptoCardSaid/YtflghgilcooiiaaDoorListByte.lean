/-
  Contracts of the lists of kind Bytes that the statements lend: marks, copies with marks, the look whether they were kept. (Written by wip/tools/listgen.py.)
-/
import Derived.Test.YtflghgilcooiiaaDoorRows
import Derived.Test.YtflghgilcooiiaaDoorBase
import Derived.Outline
import Derived.Deep.QuietTactic
import Derived.BigQuiet
namespace Go.Proofs.YtflghgilcooiiaaDoor
set_option linter.unusedVariables false
open Go.RowKit

def enByte (b : UInt8) : List Value := [.int .u8 (b.toNat : Int)]
theorem enByte_len (b : UInt8) : (enByte b).length = 1 := rfl
theorem flat_byte : IsFlat Tryd.prog 5 1 enByte (fun _ => True) := by
  refine ⟨by kernel_rfl, fun _ => rfl, ?_⟩
  intro H enc w base spare held fuel cs x hx
  obtain ⟨n, rfl, _, wf⟩ := DataW.trod_int Tryd.underlying5 hx
  have hb := u8_bd wf
  obtain ⟨m, rfl⟩ := Int.eq_ofNat_of_zero_le hb.1
  refine ⟨UInt8.ofNat m, trivial, ?_⟩
  have : (UInt8.ofNat m).toNat = m := by rw [UInt8.toNat_ofNat']; omega
  simp [enByte, this]

theorem bytes_ty : SlTy Tryd.prog 30 5 1 1 := SlTy.mk' (.int .u8 0) Tryd.underlying30 (by kernel_rfl) rfl (by decide) (by decide)

abbrev SlY (w : World) (a : Option Addr) (cap : Nat) (l : List UInt8) : Prop := SlOf w enByte 1 a cap l
theorem SlY.at {w : World} {a : Option Addr} {cap : Nat} {l : List UInt8} (h : SlY w a cap l) {k : Nat} (hk : k < l.length) : ∃ b o, a = some ⟨b, o, none⟩ ∧ b < w.heap.size ∧ w.cell? ⟨b, o + k, none⟩ = some (.int .u8 (l[k].toNat : Int)) :=
  SlOf.cell1 h (fun x => .int .u8 (x.toNat : Int)) (fun _ => rfl) hk

def markByte (k i : Int) : UInt8 := UInt8.ofNat ((37 * (k + 1) + i) % 256).toNat
theorem markByte_en (k i : Int) : enByte (markByte k i) = [.int .u8 ((37 * (k + 1) + i) % 256)] := by
  have h : (markByte k i).toNat = ((37 * (k + 1) + i) % 256).toNat := by unfold markByte; rw [UInt8.toNat_ofNat']; omega
  have h2 : ((((37 * (k + 1) + i) % 256).toNat : Nat) : Int) = (37 * (k + 1) + i) % 256 := by omega
  simp only [enByte, h, h2]

set_option maxHeartbeats 400000 in
theorem markBytes_any (k i : Int) (w : World) (hi : -140737488355328 ≤ i ∧ i ≤ 140737488355328) (hk : 0 ≤ k ∧ k ≤ 1000) :
    Calls Tryd.prog 37 #[.int .i64 k, .int .i64 i] w fun e w' => e = .returned (.int .u8 ((37 * (k + 1) + i) % 256)) ∧ Below w.heap.size w w' := by
  go_enter Tryd.func37, Tryd.ntmps37
  go_wp2
  go_ret
  exact ⟨rfl, Below.refl _ _⟩

def marksY (n : Nat) : List UInt8 := (List.range n).map fun i : Nat => markByte 90 i
theorem marksY_snoc (k : Nat) : marksY (k + 1) = marksY k ++ [markByte 90 k] := by simp [marksY, List.range_succ]
theorem marksY_len (k : Nat) : (marksY k).length = k := by simp [marksY]

set_option maxHeartbeats 400000 in
theorem fullBytes_any (l : List UInt8) (a : Option Addr) (cap : Nat) (w : World) (hs : SlY w a cap l) (hr : l.length * 1 ≤ 140737488351232) :
    Calls Tryd.prog 35 #[.slice a l.length cap] w fun e w' => ∃ v, e = .returned v ∧ Below w.heap.size w w' ∧ Owns w' w.heap.size 5 1 enByte v (l ++ marksY 16) := by
  go_enter Tryd.func35, Tryd.ntmps35
  go_wp2_with fail
  go_loopw [3, 4] (fun v i wr => ∃ k : Nat, k ≤ l.length ∧ i = .int .i64 k ∧ Owns wr w.heap.size 5 1 enByte v (l.take k) ∧ Below w.heap.size w wr) (fun _ i _ => l.length - (intOf i).toNat)
  case atStart => exact ⟨0, Nat.zero_le _, rfl, Owns.nil _ _ _ _ _, Below.refl _ _⟩
  case round =>
    obtain ⟨k, hk, rfl, hown, hbel⟩ := hrel
    by_cases hlt : k < l.length
    · obtain ⟨b, o, rfl, hb, hc0⟩ := SlY.at (hs.keep hbel (Nat.le_refl _)) hlt
      go_wp2_with (at_builtin; go_loud (refine wpList_append_elem bytes_ty (l.take k) l[k] hown hbel (Nat.le_refl _) (by simp; omega) ?_ (hone := by simp [enByte, Value.oneCell'])))
      intro v' w1 hown1 hb1
      clear hown hbel hc0
      go_wp2
      go_roundw
      case rel => exact ⟨k + 1, by omega, by go_num, hown1, hb1⟩
      case measure => simp [intOf]; omega
    · have : k = l.length := by omega
      subst this
      rw [List.take_length] at hown
      go_wp2_with fail
      go_loopw [3, 5] (fun v i wr' => ∃ k : Nat, k ≤ 16 ∧ i = .int .i64 k ∧ Owns wr' w.heap.size 5 1 enByte v (l ++ marksY k) ∧ Below w.heap.size w wr') (fun _ i _ => 16 - (intOf i).toNat)
      case atStart => exact ⟨0, by omega, rfl, by simpa [marksY] using hown, hbel⟩
      case round =>
        obtain ⟨k, hk, rfl, hown2, hbel2⟩ := hrel
        by_cases hlt : k < 16
        · go_wp2_with fail
          refine (markBytes_any 90 k _ (by omega) (by omega)).mono ?_
          rintro e w1 ⟨rfl, hb1⟩
          have hown3 := hown2.keep hb1 (Nat.le_refl _)
          have hbel3 := bstep hbel2 hb1 (Nat.le_refl _)
          have hmk := markByte_en 90 k
          have HMK := Lib.hid hmk
          clear hown2 hbel2 hown hbel hb1 hmk
          go_wp2_with (at_builtin; go_loud (refine wpList_append_elem bytes_ty (l ++ marksY k) (markByte 90 k) hown3 hbel3 (Nat.le_refl _) (by simp [marksY_len]; omega) ?_ (hy := by rw [HMK.out]; rfl) (hone := by rw [HMK.out]; simp [Value.oneCell'])))
          intro v' w2 hown4 hb4
          clear hown3 hbel3
          go_wp2
          go_roundw
          case rel => exact ⟨k + 1, by omega, by go_num, by rw [marksY_snoc]; exact hown4, hb4⟩
          case measure => simp [intOf]; omega
        · obtain rfl : k = 16 := by omega
          go_wp2_with fail
          go_ret
          exact ⟨_, rfl, hbel2, hown2⟩

set_option maxHeartbeats 400000 in
theorem lentBytes_any (l : List UInt8) (a : Option Addr) (cap : Nat) (w : World) (hs : SlY w a cap l) (hr : l.length * 1 ≤ 140737488351232) :
    Calls Tryd.prog 32 #[.slice a l.length cap] w fun e w' => ∃ g c, e = .returned (.slice (some ⟨g, 0, none⟩) l.length c) ∧ Below w.heap.size w w' ∧ w.heap.size ≤ g ∧
      Owns w' w.heap.size 5 1 enByte (.slice (some ⟨g, 0, none⟩) (l.length + 16) c) (l ++ marksY 16) := by
  go_enter Tryd.func32, Tryd.ntmps32
  go_wp2_with fail
  refine (fullBytes_any l a cap _ hs hr).mono ?_
  rintro e w1 ⟨v, rfl, hb1, ho1⟩
  obtain ⟨g, c, rfl, hg, hgs, hle, hmx⟩ := ho1.block (by simp [marksY_len])
  simp only [List.length_append, marksY_len] at ho1 hle ⊢
  go_wp2_with fail
  go_ret
  exact ⟨g, c, rfl, hb1, hg, ho1⟩

set_option maxHeartbeats 1000000 in
theorem keptFullBytes_any (l : List UInt8) (n : Nat) (a : Option Addr) (cap g o c : Nat) (w : World) (hs : SlY w a cap l) (ho : SlY w (some ⟨g, o, none⟩) c (l ++ marksY 16)) (hn : n = l.length + 16) (hr : l.length * 1 ≤ 140737488351232) :
    Calls Tryd.prog 36 #[.slice (some ⟨g, o, none⟩) n c, .slice a l.length cap] w fun e w' => e = .returned (.bool true) ∧ Below w.heap.size w w' := by
  subst hn
  have h1 := hs.len
  have h2 := ho.len
  simp only [List.length_append, marksY_len] at h2
  go_enter Tryd.func36, Tryd.ntmps36
  go_wp2_with fail
  go_loopw [5] (fun i wr => ∃ k : Nat, k ≤ l.length + 16 ∧ i = .int .i64 k ∧ Below w.heap.size w wr) (fun i _ => l.length + 16 - (intOf i).toNat)
  case atStart => exact ⟨0, Nat.zero_le _, rfl, Below.refl _ _⟩
  case round =>
    obtain ⟨k, hk, rfl, hbel⟩ := hrel
    by_cases hlt : k < l.length + 16
    · go_wp2_with fail
      refine (markBytes_any 90 _ _ (by omega) (by omega)).mono ?_
      rintro e w1 ⟨rfl, hb1⟩
      have hbel1 := bstep hbel hb1 (Nat.le_refl _)
      obtain ⟨_, _, e, hgs, hd0⟩ := SlY.at (ho.keep hbel1 (Nat.le_refl _)) (k := k) (by simp [marksY_len]; omega)
      cases e
      by_cases hlt2 : k < l.length
      · obtain ⟨b, o', rfl, hb, hc0⟩ := SlY.at (hs.keep hbel1 (Nat.le_refl _)) hlt2
        rw [List.getElem_append_left hlt2] at hd0
        have hgne : g ≠ w1.heap.size := by omega
        have hbne : b ≠ w1.heap.size := by omega
        generalize l[k].toNat = x0 at *
        clear hbel hb1
        go_wp2_with fail
        go_roundw
        case rel => exact ⟨k + 1, by omega, by go_num, hbel1⟩
        case measure => simp [intOf]; omega
      · have hmk := markByte_en 90 ((k : Int) - (l.length : Int))
        have hget : (l ++ marksY 16)[k]'(by simp [marksY_len]; omega) = markByte 90 ((k : Int) - (l.length : Int)) := by
          rw [List.getElem_append_right (by omega)]
          simp only [marksY, List.getElem_map, List.getElem_range]
          congr 1
          omega
        rw [hget] at hd0
        simp only [enByte, List.cons.injEq, and_true] at hmk
        rw [hmk] at hd0
        clear hmk
        have hgne : g ≠ w1.heap.size := by omega
        clear hbel hb1 hget
        go_wp2_with fail
        go_roundw
        case rel => exact ⟨k + 1, by omega, by go_num, hbel1⟩
        case measure => simp [intOf]; omega
    · have : k = l.length + 16 := by omega
      subst this
      go_wp2_with fail
      go_ret
      exact ⟨rfl, hbel⟩

set_option maxHeartbeats 400000 in
theorem keptBytes_any (l : List UInt8) (a : Option Addr) (cap g o c : Nat) (w : World) (hs : SlY w a cap l) (ho : SlY w (some ⟨g, o, none⟩) c (l ++ marksY 16)) (hr : l.length * 1 ≤ 140737488351232) :
    Calls Tryd.prog 34 #[.slice (some ⟨g, o, none⟩) l.length c, .slice a l.length cap] w fun e w' => e = .returned (.bool true) ∧ Below w.heap.size w w' := by
  have h1 := hs.len
  have h2 := ho.len
  simp only [List.length_append, marksY_len] at h2
  go_enter Tryd.func34, Tryd.ntmps34
  go_wp2_with fail
  refine (keptFullBytes_any l _ a cap g o c _ hs ho rfl hr).mono ?_
  rintro e w1 ⟨rfl, hb1⟩
  go_wp2_with fail
  go_ret
  exact ⟨rfl, hb1⟩
end Go.Proofs.YtflghgilcooiiaaDoor
