/-
  Contracts of the lists of rules that the statements lend: marks, copies with marks, the look whether they were kept.
-/
import Derived.Test.YtflghgilcooiiaaDoorRows
import Derived.Test.YtflghgilcooiiaaDoorBase
import Derived.Outline
import Derived.Deep.QuietTactic
import Derived.BigQuiet
namespace Go.Proofs.YtflghgilcooiiaaDoor
set_option linter.unusedVariables false
open Go.RowKit

structure RuleD where
  wide : Bool
  code : Nat
  mask : Nat
deriving DecidableEq

instance : Inhabited RuleD := ⟨⟨false, 0, 0⟩⟩

def enRule (r : RuleD) : List Value := [.bool r.wide, .int .u32 r.code, .int .u32 r.mask]
def okRule (r : RuleD) : Prop := r.code < 4294967296 ∧ r.mask < 4294967296
theorem enRule_len (r : RuleD) : (enRule r).length = 3 := rfl

theorem flat_rule : IsFlat Tryd.prog 38 3 enRule okRule := by
  refine ⟨by kernel_rfl, fun _ => rfl, ?_⟩
  intro H enc w base spare held fuel cs x hx
  obtain ⟨xs, n, rfl, rfl, hlen, hxl, hf⟩ := DataW.trod_struct Tryd.underlying38 hx
  have hc : Tryd.prog.cellsOf 38 = 3 := by kernel_rfl
  have hc4 : Tryd.prog.cellsOf 4 = 1 := by kernel_rfl
  have hc23 : Tryd.prog.cellsOf 28 = 1 := by kernel_rfl
  rw [hc] at hlen
  have hxl3 : xs.length = 3 := hxl
  match cs, hlen, xs, hxl3 with
  | [c0, c1, c2], _, [x0, x1, x2], _ =>
    have h0 : DataW.trod enc Tryd.prog w base spare held n 4 (([c0, c1, c2].drop 0).take (Tryd.prog.cellsOf 4)) = some x0 := hf 0 _ rfl
    have h1 : DataW.trod enc Tryd.prog w base spare held n 28 (([c0, c1, c2].drop 1).take (Tryd.prog.cellsOf 28)) = some x1 := hf 1 _ rfl
    have h2 : DataW.trod enc Tryd.prog w base spare held n 28 (([c0, c1, c2].drop 2).take (Tryd.prog.cellsOf 28)) = some x2 := hf 2 _ rfl
    rw [hc4] at h0
    rw [hc23] at h1 h2
    obtain ⟨b, e0, _⟩ := DataW.trod_bool Tryd.underlying4 h0
    obtain ⟨n1, e1, _, w1⟩ := DataW.trod_int Tryd.underlying28 h1
    obtain ⟨n2, e2, _, w2⟩ := DataW.trod_int Tryd.underlying28 h2
    have b1 := u32_bd w1
    have b2 := u32_bd w2
    obtain ⟨m1, rfl⟩ := Int.eq_ofNat_of_zero_le b1.1
    obtain ⟨m2, rfl⟩ := Int.eq_ofNat_of_zero_le b2.1
    refine ⟨⟨b, m1, m2⟩, ⟨by show m1 < _; omega, by show m2 < _; omega⟩, ?_⟩
    simp at e0 e1 e2
    simp [enRule, e0, e1, e2]

theorem rules_ty : SlTy Tryd.prog 22 38 3 12 := SlTy.mk' (.agg #[.bool false, .int .u32 0, .int .u32 0]) Tryd.underlying22 (by kernel_rfl) rfl (by decide) (by decide)

/-- a list of rules at hand -/
abbrev SlR (w : World) (a : Option Addr) (cap : Nat) (l : List RuleD) : Prop := SlOf w enRule 3 a cap l

theorem SlR.at {w : World} {a : Option Addr} {cap : Nat} {l : List RuleD} (h : SlR w a cap l) {k : Nat} (hk : k < l.length) :
    ∃ b o, a = some ⟨b, o, none⟩ ∧ b < w.heap.size ∧ w.cell? ⟨b, o + k * 3, none⟩ = some (.bool l[k].wide) ∧ w.cell? ⟨b, o + k * 3 + 1, none⟩ = some (.int .u32 l[k].code) ∧ w.cell? ⟨b, o + k * 3 + 2, none⟩ = some (.int .u32 l[k].mask) := by
  obtain ⟨b, o, rfl, hb, hc⟩ := SlOf.cells h enRule_len (by decide) hk
  exact ⟨b, o, rfl, hb, hc 0 (by decide), by rw [Nat.add_assoc]; exact hc 1 (by decide), by rw [Nat.add_assoc]; exact hc 2 (by decide)⟩

def markRule (k i : Int) : RuleD := ⟨false, (k % 4294967296).toNat, (i % 4294967296).toNat⟩
theorem markRule_en (k i : Int) : enRule (markRule k i) = [.bool false, .int .u32 (k % 4294967296), .int .u32 (i % 4294967296)] := by
  have h1 : ((k % 4294967296).toNat : Int) = k % 4294967296 := by omega
  have h2 : ((i % 4294967296).toNat : Int) = i % 4294967296 := by omega
  simp only [enRule, markRule, h1, h2]

set_option maxHeartbeats 400000 in
theorem markRules_any (k i : Int) (w : World) :
    Calls Tryd.prog 25 #[.int .i64 k, .int .i64 i] w fun e w' => e = .returned (.agg #[.bool false, .int .u32 (k % 4294967296), .int .u32 (i % 4294967296)]) ∧ Below w.heap.size w w' := by
  go_enter Tryd.func25, Tryd.ntmps25
  go_wp2
  exact bodyPost_ret (v := .agg #[.bool false, .int .u32 (k % 4294967296), .int .u32 (i % 4294967296)]) (by simp [results, Tryd.results25, go_sem]) rfl ⟨rfl, (Below.refl _ _).alloc (Nat.le_refl _) _⟩

def marksR (n : Nat) : List RuleD := (List.range n).map fun i : Nat => markRule 90 i
theorem marksR_snoc (k : Nat) : marksR (k + 1) = marksR k ++ [markRule 90 k] := by simp [marksR, List.range_succ]
theorem marksR_len (k : Nat) : (marksR k).length = k := by simp [marksR]

theorem take_snoc' {α : Type} (l : List α) (k : Nat) (h : k < l.length) : l.take (k + 1) = l.take k ++ [l[k]] := by
  rw [List.take_succ_eq_append_getElem h]

set_option maxHeartbeats 400000 in
theorem fullRules_any (l : List RuleD) (a : Option Addr) (cap : Nat) (w : World) (hs : SlR w a cap l) (hr : l.length * 12 ≤ 140737488351232) :
    Calls Tryd.prog 21 #[.slice a l.length cap] w fun e w' => ∃ v, e = .returned v ∧ Below w.heap.size w w' ∧ Owns w' w.heap.size 38 3 enRule v (l ++ marksR 16) := by
  go_enter Tryd.func21, Tryd.ntmps21
  go_wp2_with fail
  go_loopw [3, 4] (fun v i wr => ∃ k : Nat, k ≤ l.length ∧ i = .int .i64 k ∧ Owns wr w.heap.size 38 3 enRule v (l.take k) ∧ Below w.heap.size w wr) (fun _ i _ => l.length - (intOf i).toNat)
  case atStart => exact ⟨0, Nat.zero_le _, rfl, Owns.nil _ _ _ _ _, Below.refl _ _⟩
  case round =>
    obtain ⟨k, hk, rfl, hown, hbel⟩ := hrel
    by_cases hlt : k < l.length
    · obtain ⟨b, o, rfl, hb, hc0, hc1, hc2⟩ := SlR.at (hs.keep hbel (Nat.le_refl _)) hlt
      go_wp2_with (at_builtin; go_loud (refine wpList_append_elem rules_ty (l.take k) l[k] hown hbel (Nat.le_refl _) (by simp; omega) ?_ (hone := by simp [enRule, Value.oneCell'])))
      intro v' w1 hown1 hb1
      clear hown hbel hc0 hc1 hc2
      go_wp2
      go_roundw
      case rel => exact ⟨k + 1, by omega, by go_num, hown1, hb1⟩
      case measure => simp [intOf]; omega
    · have : k = l.length := by omega
      subst this
      rw [List.take_length] at hown
      go_wp2_with fail
      go_loopw [3, 5] (fun v i wr' => ∃ k : Nat, k ≤ 16 ∧ i = .int .i64 k ∧ Owns wr' w.heap.size 38 3 enRule v (l ++ marksR k) ∧ Below w.heap.size w wr') (fun _ i _ => 16 - (intOf i).toNat)
      case atStart => exact ⟨0, by omega, rfl, by simpa [marksR] using hown, hbel⟩
      case round =>
        obtain ⟨k, hk, rfl, hown2, hbel2⟩ := hrel
        by_cases hlt : k < 16
        · go_wp2_with fail
          refine (markRules_any 90 k _).mono ?_
          rintro e w1 ⟨rfl, hb1⟩
          have hown3 := hown2.keep hb1 (Nat.le_refl _)
          have hbel3 := bstep hbel2 hb1 (Nat.le_refl _)
          have hmk := markRule_en 90 k
          have HMK := Lib.hid hmk
          clear hown2 hbel2 hown hbel hb1 hmk
          go_wp2_with (at_builtin; go_loud (refine wpList_append_elem rules_ty (l ++ marksR k) (markRule 90 k) hown3 hbel3 (Nat.le_refl _) (by simp [marksR_len]; omega) ?_ (hy := by rw [HMK.out]; rfl) (hone := by rw [HMK.out]; simp [Value.oneCell'])))
          intro v' w2 hown4 hb4
          clear hown3 hbel3
          go_wp2
          go_roundw
          case rel => exact ⟨k + 1, by omega, by go_num, by rw [marksR_snoc]; exact hown4, hb4⟩
          case measure => simp [intOf]; omega
        · obtain rfl : k = 16 := by omega
          go_wp2_with fail
          go_ret
          exact ⟨_, rfl, hbel2, hown2⟩

set_option maxHeartbeats 400000 in
theorem lentRules_any (l : List RuleD) (a : Option Addr) (cap : Nat) (w : World) (hs : SlR w a cap l) (hr : l.length * 12 ≤ 140737488351232) :
    Calls Tryd.prog 8 #[.slice a l.length cap] w fun e w' => ∃ g c, e = .returned (.slice (some ⟨g, 0, none⟩) l.length c) ∧ Below w.heap.size w w' ∧ w.heap.size ≤ g ∧
      Owns w' w.heap.size 38 3 enRule (.slice (some ⟨g, 0, none⟩) (l.length + 16) c) (l ++ marksR 16) := by
  go_enter Tryd.func8, Tryd.ntmps8
  go_wp2_with fail
  refine (fullRules_any l a cap _ hs hr).mono ?_
  rintro e w1 ⟨v, rfl, hb1, ho1⟩
  obtain ⟨g, c, rfl, hg, hgs, hle, hmx⟩ := ho1.block (by simp [marksR_len])
  simp only [List.length_append, marksR_len] at ho1 hle ⊢
  go_wp2_with fail
  go_ret
  exact ⟨g, c, rfl, hb1, hg, ho1⟩

set_option maxHeartbeats 1000000 in
theorem keptFullRules_any (l : List RuleD) (n : Nat) (a : Option Addr) (cap g o c : Nat) (w : World) (hs : SlR w a cap l) (ho : SlR w (some ⟨g, o, none⟩) c (l ++ marksR 16)) (hn : n = l.length + 16) :
    Calls Tryd.prog 26 #[.slice (some ⟨g, o, none⟩) n c, .slice a l.length cap] w fun e w' => e = .returned (.bool true) ∧ Below w.heap.size w w' := by
  subst hn
  have h1 := hs.len
  have h2 := ho.len
  simp only [List.length_append, marksR_len] at h2
  go_enter Tryd.func26, Tryd.ntmps26
  go_wp2_with fail
  go_loopw [5] (fun i wr => ∃ k : Nat, k ≤ l.length + 16 ∧ i = .int .i64 k ∧ Below w.heap.size w wr) (fun i _ => l.length + 16 - (intOf i).toNat)
  case atStart => exact ⟨0, Nat.zero_le _, rfl, Below.refl _ _⟩
  case round =>
    obtain ⟨k, hk, rfl, hbel⟩ := hrel
    by_cases hlt : k < l.length + 16
    · go_wp2_with fail
      refine (markRules_any 90 _ _).mono ?_
      rintro e w1 ⟨rfl, hb1⟩
      have hbel1 := bstep hbel hb1 (Nat.le_refl _)
      obtain ⟨_, _, e, hgs, hd0, hd1, hd2⟩ := SlR.at (ho.keep hbel1 (Nat.le_refl _)) (k := k) (by simp [marksR_len]; omega)
      cases e
      by_cases hlt2 : k < l.length
      · obtain ⟨b, o', rfl, hb, hc0, hc1, hc2⟩ := SlR.at (hs.keep hbel1 (Nat.le_refl _)) hlt2
        rw [List.getElem_append_left hlt2] at hd0 hd1 hd2
        have hgne : g ≠ w1.heap.size := by omega
        have hbne : b ≠ w1.heap.size := by omega
        generalize l[k].wide = x0 at *
        generalize l[k].code = x1 at *
        generalize l[k].mask = x2 at *
        clear hbel hb1
        go_wp2_with fail
        go_quiet (fail)
        go_wp2_with fail
        go_roundw
        case rel => exact ⟨k + 1, by omega, by go_num, below_drewN (((((((hbel1.alloc (by have := hbel1.size; omega) _)))))) ) _⟩
        case measure => simp [intOf]; omega
      · have hmk := markRule_en 90 ((k : Int) - (l.length : Int))
        have hget : (l ++ marksR 16)[k]'(by simp [marksR_len]; omega) = markRule 90 ((k : Int) - (l.length : Int)) := by
          rw [List.getElem_append_right (by omega)]
          simp only [marksR, List.getElem_map, List.getElem_range]
          congr 1
          omega
        rw [hget] at hd0 hd1 hd2
        simp only [enRule, List.cons.injEq, and_true] at hmk
        obtain ⟨q0, q1, q2⟩ := hmk
        rw [q0] at hd0
        rw [q1] at hd1
        rw [q2] at hd2
        have hgne : g ≠ w1.heap.size := by omega
        clear hbel hb1 q0 q1 q2 hget
        go_wp2_with fail
        go_quiet (fail)
        go_wp2_with fail
        go_roundw
        case rel => exact ⟨k + 1, by omega, by go_num, below_drewN (hbel1.alloc (by have := hbel1.size; omega) _) _⟩
        case measure => simp [intOf]; omega
    · have : k = l.length + 16 := by omega
      subst this
      go_wp2_with fail
      go_ret
      exact ⟨rfl, hbel⟩

set_option maxHeartbeats 400000 in
theorem keptRules_any (l : List RuleD) (a : Option Addr) (cap g o c : Nat) (w : World) (hs : SlR w a cap l) (ho : SlR w (some ⟨g, o, none⟩) c (l ++ marksR 16)) :
    Calls Tryd.prog 13 #[.slice (some ⟨g, o, none⟩) l.length c, .slice a l.length cap] w fun e w' => e = .returned (.bool true) ∧ Below w.heap.size w w' := by
  have h1 := hs.len
  have h2 := ho.len
  simp only [List.length_append, marksR_len] at h2
  go_enter Tryd.func13, Tryd.ntmps13
  go_wp2_with fail
  refine (keptFullRules_any l _ a cap g o c _ hs ho rfl).mono ?_
  rintro e w1 ⟨rfl, hb1⟩
  go_wp2_with fail
  go_ret
  exact ⟨rfl, hb1⟩
end Go.Proofs.YtflghgilcooiiaaDoor
