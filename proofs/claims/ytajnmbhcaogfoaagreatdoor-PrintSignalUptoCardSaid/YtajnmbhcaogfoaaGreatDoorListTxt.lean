/-
  Contracts of the lists of texts that the statements lend: marks, copies with marks, the look whether they were kept.
-/
import Derived.Test.YtajnmbhcaogfoaaGreatDoorRows
import Derived.Test.YtajnmbhcaogfoaaGreatDoorBaseD
import Derived.Test.YtajnmbhcaogfoaaGreatDoorBaseC
import Derived.Test.YtajnmbhcaogfoaaGreatDoorAppS
import Derived.BigQuiet

namespace Go.Proofs.YtajnmbhcaogfoaaGreatDoor
set_option linter.unusedVariables false
open Go.RowKit

def enTx (l : List UInt8) : List Value := [.string ⟨l.toArray⟩]
theorem enTx_len (l : List UInt8) : (enTx l).length = 1 := rfl
theorem txs_ty : SlTy Tryz.prog 27 9 1 16 := SlTy.mk' (.string ⟨#[]⟩) Tryz.underlying27 (by kernel_rfl) rfl (by decide) (by decide)
abbrev SlX (w : World) (a : Option Addr) (cap : Nat) (l : List (List UInt8)) : Prop := SlOf w enTx 1 a cap l
theorem SlX.at {w : World} {a : Option Addr} {cap : Nat} {l : List (List UInt8)} (h : SlX w a cap l) {k : Nat} (hk : k < l.length) : ∃ b o, a = some ⟨b, o, none⟩ ∧ b < w.heap.size ∧ w.cell? ⟨b, o + k, none⟩ = some (.string ⟨l[k].toArray⟩) :=
  SlOf.cell1 h (fun x : List UInt8 => .string ⟨x.toArray⟩) (fun _ => rfl) hk

def u8I (i : Int) : UInt8 := UInt8.ofNat (i % 256).toNat
theorem u8I_wrap (i : Int) : IntKind.u8.wrap i = (((u8I i).toNat : Nat) : Int) := by
  unfold IntKind.wrap u8I
  rw [UInt8.toNat_ofNat']
  simp [IntKind.bits, IntKind.signed]
  omega
/-- the mark of the place i in a list that is lent -/
def mkTx (i : Int) : List UInt8 := [35, 90, 0, u8I i, u8I (i / 256)]

set_option maxRecDepth 100000 in
set_option maxHeartbeats 1000000 in
theorem markTx_any (i : Int) (hi : -9007199254740992 ≤ i ∧ i ≤ 9007199254740992) (w : World) :
    Calls Tryz.prog 83 #[.int .i64 90, .int .i64 i] w fun e w' => e = .returned (.string ⟨(mkTx i).toArray⟩) ∧ Below w.heap.size w w' := by
  have c3 := u8I_wrap i
  have c4 := u8I_wrap (i / 256)
  unfold mkTx at *
  generalize u8I i = b3 at *
  generalize u8I (i / 256) = b4 at *
  have hs := SlOf.lit w enByte 1 (fun _ => rfl) [35, 90, 0, b3, b4] #[.int .u8 35, .int .u8 90, .int .u8 0, .int .u8 b3.toNat, .int .u8 b4.toNat] 5 5 rfl rfl (by decide)
  have hconv : (convert 44 9 (.slice (some ⟨w.heap.size, 0, none⟩) 5 5)).run Tryz.prog (w.alloc (.cells #[.int .u8 35, .int .u8 90, .int .u8 0, .int .u8 b3.toNat, .int .u8 b4.toNat] 5)) = .ok (.string ⟨#[35, 90, 0, b3, b4]⟩) (w.alloc (.cells #[.int .u8 35, .int .u8 90, .int .u8 0, .int .u8 b3.toNat, .int .u8 b4.toNat] 5)) :=
    run_convert_bytes_back _ 44 9 5 ⟨w.heap.size, 0, none⟩ 5 [35, 90, 0, b3, b4] Tryz.underlying44 Tryz.underlying5 Tryz.underlying9 fun j hj => by
      obtain ⟨b, o, e1, _, hc⟩ := SlOf.cell1 hs (fun x : UInt8 => .int .u8 (x.toNat : Int)) (fun _ => rfl) hj
      cases e1
      rw [Addr.add_lit]
      exact hc
  have HB := Lib.hid ((Below.refl w.heap.size w).alloc (Nat.le_refl _) (.cells #[.int .u8 35, .int .u8 90, .int .u8 0, .int .u8 b3.toNat, .int .u8 b4.toNat] 5))
  clear hs
  go_enter Tryz.func83, Tryz.ntmps83
  go_wp2_with fail
  go_ret
  exact ⟨rfl, HB.out⟩
set_option maxHeartbeats 400000 in
theorem marksTx_any (i : Int) (hi : -9007199254740992 ≤ i ∧ i ≤ 9007199254740992) (w : World) :
    Calls Tryz.prog 56 #[.int .i64 90, .int .i64 i] w fun e w' => e = .returned (.string ⟨(mkTx i).toArray⟩) ∧ Below w.heap.size w w' := by
  have cm := fun W => markTx_any i hi W
  generalize mkTx i = t at *
  go_enter Tryz.func56, Tryz.ntmps56
  go_wp2_with fail
  with_reducible refine (cm _).mono ?_
  rintro e w1 ⟨rfl, hb⟩
  go_wp2_with fail
  go_ret
  exact ⟨rfl, hb⟩

def marksX (n : Nat) : List (List UInt8) := (List.range n).map fun i : Nat => mkTx i
theorem marksX_snoc (k : Nat) : marksX (k + 1) = marksX k ++ [mkTx k] := by simp [marksX, List.range_succ]
theorem marksX_len (k : Nat) : (marksX k).length = k := by simp [marksX]

set_option maxHeartbeats 1000000 in
theorem fullTx_any (l : List (List UInt8)) (n : Nat) (hn : n = l.length) (a : Option Addr) (cap : Nat) (w : World) (hs : SlX w a cap l) (hr : l.length * 16 ≤ 140737488351232) :
    Calls Tryz.prog 34 #[.slice a n cap] w fun e w' => ∃ v, e = .returned v ∧ Below w.heap.size w w' ∧ Owns w' w.heap.size 9 1 enTx v (l ++ marksX 16) := by
  subst hn
  go_enter Tryz.func34, Tryz.ntmps34
  go_wp2_with fail
  go_loopw [3, 4] (fun v i wr => ∃ k : Nat, k ≤ l.length ∧ i = .int .i64 k ∧ Owns wr w.heap.size 9 1 enTx v (l.take k) ∧ Below w.heap.size w wr) (fun _ i _ => l.length - (intOf i).toNat)
  case atStart => exact ⟨0, Nat.zero_le _, rfl, Owns.nil _ _ _ _ _, Below.refl _ _⟩
  case round =>
    obtain ⟨k, hk, rfl, hown, hbel⟩ := hrel
    by_cases hlt : k < l.length
    · obtain ⟨b, o, rfl, hb, hc0⟩ := SlX.at (hs.keep hbel (Nat.le_refl _)) hlt
      go_wp2_with (at_builtin; go_loud (refine wpList_append_elem txs_ty (l.take k) l[k] hown hbel (Nat.le_refl _) (by simp; omega) ?_ (hone := by simp [enTx, Value.oneCell'])))
      intro v' w1 hown1 hb1
      clear hown hbel hc0
      go_wp2_with fail
      go_roundw
      case rel => exact ⟨k + 1, by omega, by go_num, hown1, hb1⟩
      case measure => simp [intOf]; omega
    · have : k = l.length := by omega
      subst this
      rw [List.take_length] at hown
      go_wp2_with fail
      go_loopw [3, 5] (fun v i wr' => ∃ k : Nat, k ≤ 16 ∧ i = .int .i64 k ∧ Owns wr' w.heap.size 9 1 enTx v (l ++ marksX k) ∧ Below w.heap.size w wr') (fun _ i _ => 16 - (intOf i).toNat)
      case atStart => exact ⟨0, by omega, rfl, by simpa [marksX] using hown, hbel⟩
      case round =>
        obtain ⟨k, hk, rfl, hown2, hbel2⟩ := hrel
        by_cases hlt : k < 16
        · have cm := fun W => marksTx_any k (by omega) W
          have HS := Lib.hid (marksX_snoc k)
          generalize mkTx (k : Int) = mt at *
          go_wp2_with fail
          with_reducible refine (cm _).mono ?_
          rintro e w1 ⟨rfl, hb1⟩
          have hown3 := hown2.keep hb1 (Nat.le_refl _)
          have hbel3 := bstep hbel2 hb1 (Nat.le_refl _)
          clear hown2 hbel2 hown hbel hb1
          go_wp2_with (at_builtin; go_loud (refine wpList_append_elem txs_ty (l ++ marksX k) mt hown3 hbel3 (Nat.le_refl _) (by simp [marksX_len]; omega) ?_ (hone := by simp [enTx, Value.oneCell'])))
          intro v' w2 hown4 hb4
          clear hown3 hbel3
          go_wp2_with fail
          go_roundw
          case rel => exact ⟨k + 1, by omega, by go_num, by rw [HS.out]; exact hown4, hb4⟩
          case measure => simp [intOf]; omega
        · obtain rfl : k = 16 := by omega
          go_wp2_with fail
          go_ret
          exact ⟨_, rfl, hbel2, hown2⟩

set_option maxHeartbeats 400000 in
theorem lentTx_any (l : List (List UInt8)) (n : Nat) (hn : n = l.length) (a : Option Addr) (cap : Nat) (w : World) (hs : SlX w a cap l) (hr : l.length * 16 ≤ 140737488351232) :
    Calls Tryz.prog 17 #[.slice a n cap] w fun e w' => ∃ g c, e = .returned (.slice (some ⟨g, 0, none⟩) n c) ∧ Below w.heap.size w w' ∧ w.heap.size ≤ g ∧
      Owns w' w.heap.size 9 1 enTx (.slice (some ⟨g, 0, none⟩) (n + 16) c) (l ++ marksX 16) := by
  subst hn
  have hsm : l.length ≤ 8796093021952 := by omega
  go_enter Tryz.func17, Tryz.ntmps17
  go_wp2_with fail
  with_reducible refine (fullTx_any l _ rfl a cap w hs hr).mono ?_
  rintro e w1 ⟨v, rfl, hb1, ho1⟩
  obtain ⟨g, c, rfl, hg, hgs, hle, hmx⟩ := ho1.block (by simp [marksX_len])
  simp only [List.length_append, marksX_len] at ho1 hle ⊢
  go_wp2_with fail
  go_ret
  exact ⟨g, c, rfl, hb1, hg, ho1⟩

set_option maxHeartbeats 1000000 in
theorem keptFullTx_any (l : List (List UInt8)) (n m : Nat) (hm : m = l.length) (a : Option Addr) (cap g o c : Nat) (w : World) (hs : SlX w a cap l) (ho : SlX w (some ⟨g, o, none⟩) c (l ++ marksX 16)) (hn : n = l.length + 16) (hr : l.length * 16 ≤ 140737488351232) :
    Calls Tryz.prog 48 #[.slice (some ⟨g, o, none⟩) n c, .slice a m cap] w fun e w' => e = .returned (.bool true) ∧ Below w.heap.size w w' := by
  subst hn
  subst hm
  have h2 := ho.len
  simp only [List.length_append, marksX_len] at h2
  go_enter Tryz.func48, Tryz.ntmps48
  go_wp2_with fail
  go_loopw [5] (fun i wr => ∃ k : Nat, k ≤ l.length + 16 ∧ i = .int .i64 k ∧ Below w.heap.size w wr) (fun i _ => l.length + 16 - (intOf i).toNat)
  case atStart => exact ⟨0, Nat.zero_le _, rfl, Below.refl _ _⟩
  case round =>
    obtain ⟨k, hk, rfl, hbel⟩ := hrel
    by_cases hlt : k < l.length + 16
    · go_wp2_with fail
      refine (marksTx_any _ (by omega) _).mono ?_
      rintro e w1 ⟨rfl, hb1⟩
      have hbel1 := bstep hbel hb1 (Nat.le_refl _)
      obtain ⟨_, _, e, hgs, hd0⟩ := SlX.at (ho.keep hbel1 (Nat.le_refl _)) (k := k) (by simp [marksX_len]; omega)
      cases e
      by_cases hlt2 : k < l.length
      · obtain ⟨b, o', rfl, hb, hc0⟩ := SlX.at (hs.keep hbel1 (Nat.le_refl _)) hlt2
        rw [List.getElem_append_left hlt2] at hd0
        generalize (⟨l[k].toArray⟩ : ByteArray) = x0 at *
        generalize mkTx _ = mt at *
        clear hbel hb1
        go_wp2_with fail
        go_roundw
        case rel => exact ⟨k + 1, by omega, by go_num, hbel1⟩
        case measure => simp [intOf]; omega
      · have hget : (l ++ marksX 16)[k]'(by simp [marksX_len]; omega) = mkTx ((k : Int) - (l.length : Int)) := by
          rw [List.getElem_append_right (by omega)]
          simp only [marksX, List.getElem_map, List.getElem_range]
          congr 1
          omega
        rw [hget] at hd0
        generalize mkTx ((k : Int) - (l.length : Int)) = mt at *
        clear hbel hb1 hget
        go_wp2_with fail
        go_roundw
        case rel => exact ⟨k + 1, by omega, by go_num, hbel1⟩
        case measure => simp [intOf]; omega
    · have : k = l.length + 16 := by omega
      subst this
      go_wp2_with fail
      go_ret
      exact ⟨rfl, hbel⟩

set_option maxHeartbeats 400000 in
theorem keptTx_any (l : List (List UInt8)) (n m : Nat) (hn : n = l.length) (hm : m = l.length) (a : Option Addr) (cap g o c : Nat) (w : World) (hs : SlX w a cap l) (ho : SlX w (some ⟨g, o, none⟩) c (l ++ marksX 16)) (hr : l.length * 16 ≤ 140737488351232) :
    Calls Tryz.prog 28 #[.slice (some ⟨g, o, none⟩) n c, .slice a m cap] w fun e w' => e = .returned (.bool true) ∧ Below w.heap.size w w' := by
  subst hn
  subst hm
  have h2 := ho.len
  have h3 := ho.le
  simp only [List.length_append, marksX_len] at h2 h3
  go_enter Tryz.func28, Tryz.ntmps28
  go_wp2_with fail
  refine (keptFullTx_any l _ _ rfl a cap g o c _ hs ho rfl hr).mono ?_
  rintro e w1 ⟨rfl, hb1⟩
  go_wp2_with fail
  go_ret
  exact ⟨rfl, hb1⟩
end Go.Proofs.YtajnmbhcaogfoaaGreatDoor
