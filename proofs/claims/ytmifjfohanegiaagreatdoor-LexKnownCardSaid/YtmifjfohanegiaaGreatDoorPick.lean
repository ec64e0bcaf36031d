/-
  Contract of busbarkit's Pick.
-/
import Derived.Test.YtmifjfohanegiaaGreatDoorRplB
import Derived.Test.YtmifjfohanegiaaGreatDoorShelf
import Derived.Test.YtmifjfohanegiaaGreatDoorCalm
import Derived.Laws.CopyOwn
import Derived.Deep.Cut
import Derived.Deep.DeepCutAuto
import Derived.BigQuiet
import Derived.Test.YtmifjfohanegiaaGreatDoorNatT
import Derived.Test.YtmifjfohanegiaaGreatDoorRows
import Derived.Test.YtmifjfohanegiaaGreatDoorBaseB

namespace Go.Proofs.YtmifjfohanegiaaGreatDoor
set_option linter.unusedVariables false
open Go.RowKit

def repV (B : Nat) : Value := .iface 200 (.pointer (some ⟨B, 0, none⟩))
set_option maxRecDepth 100000 in
set_option maxHeartbeats 2000000 in
theorem buildOnce_any (r g k : Nat) (x0 x1 x2 x3 : Value) (base : Nat) (hr : base ≤ r) (w : World) (hk : Blk w r #[x0, x1, x2, x3, .slice (some ⟨g, 0, none⟩) 4 k]) (hs : SlOf w enBs 1 (some ⟨g, 0, none⟩) k escT) :
    Calls Tryz.prog 48 #[.pointer (some ⟨r, 0, none⟩)] w fun e w' => e = .returned (.tuple #[]) ∧ Below base w w' ∧ ∃ B, Blk w' r #[x0, x1, x2, repV B, .slice none 0 0] ∧ RepAt w' (r + 1) B := by
  have hc := hk.cell 4 _ rfl
  have cb := build_any r g k w hc hs
  have hrl := hk.lt
  have HK := Lib.hid hk
  clear hk hs
  unfold repV
  go_enter Tryz.func48, Tryz.ntmps48
  go_wp2_with fail
  with_reducible refine cb.mono ?_
  rintro e w1 ⟨B, rfl, hb, hrep⟩
  have hk1 := HK.out.keep hb (Nat.le_refl _)
  have c3 := hk1.cell 3 _ rfl
  have c4 := hk1.cell 4 _ rfl
  have f3 := hk1.free 3
  have f4 := hk1.free 4
  have hk2 := hk1.st 3 (.iface 200 (.pointer (some ⟨B, 0, none⟩)))
  have HK3 := Lib.hid (hk2.st 4 (.slice none 0 0))
  have HB := Lib.hid (((hb.mono (by omega)).setCell (p := ⟨r, 3, none⟩) hr (.iface 200 (.pointer (some ⟨B, 0, none⟩)))).setCell (p := ⟨r, 4, none⟩) hr (.slice none 0 0) : Below base w _)
  have hrep1 : RepAt w1 (r + 1) B := hrep.lower (by omega)
  have HR := Lib.hid (show RepAt ((w1.setCell ⟨r, 3, none⟩ (.iface 200 (.pointer (some ⟨B, 0, none⟩)))).setCell ⟨r, 4, none⟩ (.slice none 0 0)) (r + 1) B from
    hrep1.of_heap fun k hk _ => by rw [Below.heap_setCell _ ⟨r, 4, none⟩ _ k (by show k ≠ r; omega), Below.heap_setCell _ ⟨r, 3, none⟩ _ k (by show k ≠ r; omega)])
  clear hk1 hk2 hrep hrep1 cb hb hc
  go_wp2_with fail
  go_end0
  exact ⟨rfl, HB.out, B, HK3.out, HR.out⟩

set_option maxRecDepth 100000 in
set_option maxHeartbeats 2000000 in
theorem newReplacer_any (g n k : Nat) (hn : n = 4) (w : World) (hs : SlOf w enBs 1 (some ⟨g, 0, none⟩) k escT) :
    Calls Tryz.prog 23 #[.slice (some ⟨g, 0, none⟩) n k] w fun e w' => ∃ r g' k', e = .returned (.pointer (some ⟨r, 0, none⟩)) ∧ Below w.heap.size w w' ∧ w.heap.size ≤ r ∧
      Blk w' r #[.int .u32 0, .int .i32 0, .int .u32 0, .nilIface, .slice (some ⟨g', 0, none⟩) 4 k'] ∧ SlOf w' enBs 1 (some ⟨g', 0, none⟩) k' escT ∧ g' ≠ r := by
  subst hn
  obtain ⟨i0, hi, hz0, hz1, hz2⟩ := info_parts (P := Tryz.prog) (e := 9) (z := .string ⟨#[]⟩) (size := 1) (bytes := 16) (by kernel_rfl)
  have hcell : ∀ j u, (escT.flatMap enBs)[j]? = some u → w.cell? ((⟨g, 0, none⟩ : Addr).add j) = some u := fun j u hu => by
    have hj : j < (escT.flatMap enBs).length := (List.getElem?_eq_some_iff.1 hu).1
    obtain ⟨b, o, e, h1⟩ := hs.at' j hj
    cases e
    rw [Addr.add_lit, h1]
    exact hu
  have HC := Lib.hid hcell
  clear hcell hs
  go_enter Tryz.func23, Tryz.ntmps23
  go_wp2_with (at_builtin; refine wpList_append_own _ rfl _ _ 51 rfl w.heap.size 9 i0 (.string ⟨#[]⟩) 1 16 Tryz.underlying51 hi hz0 hz1 hz2 rfl (by decide) (.slice none 0 0) 0 [] rfl (World.ownsRow_nil w w.heap.size 9 1) ⟨g, 0, none⟩ 4 k (escT.flatMap enBs) rfl rfl HC.out (by simp [escT, enBs, Value.oneCell']) (by decide) (by decide) (Nat.le_refl _) ?_)
  intro v1 w1 hown hgrow _
  have ho : Owns w1 w.heap.size 9 1 enBs v1 escT := hown
  have hb : Below w.heap.size w w1 := Below.ofGrown hgrow
  obtain ⟨g', k', rfl, hg1, hg2, -⟩ := ho.block (by decide)
  have hsl := Lib.hid ho.sl.2
  have HB := Lib.hid hb
  have hr := hb.size
  clear hown hgrow ho hi hz0 hz1 hz2 hb
  have HK := Lib.hid (Blk.new w1 #[.int .u32 0, .int .i32 0, .int .u32 0, .nilIface, .slice (some ⟨g', 0, none⟩) 4 k'] 94)
  have HS := Lib.hid (SlOf.alloc hsl.out (.cells #[.int .u32 0, .int .i32 0, .int .u32 0, .nilIface, .slice (some ⟨g', 0, none⟩) 4 k'] 94))
  go_wp2_with fail
  go_ret
  exact ⟨w1.heap.size, g', k', rfl, HB.out.alloc hr _, hr, HK.out, HS.out, by omega⟩
end Go.Proofs.YtmifjfohanegiaaGreatDoor

namespace Go.Proofs.YtmifjfohanegiaaGreatDoor
set_option linter.unusedVariables false
open Go.RowKit Go.Shelf

def escB (c : UInt8) : List UInt8 := if c = 92 ∨ c = 34 then [92, c] else [c]
def escQ (l : List UInt8) : List UInt8 := l.flatMap escB
def cqL (l : List UInt8) : Nat := l.count 34 + l.count 92
theorem escB_len (c : UInt8) : (escB c).length = 1 + cqL [c] := by
  unfold escB cqL
  by_cases h1 : c = 92
  · subst h1; rfl
  · by_cases h2 : c = 34
    · subst h2; rfl
    · rw [if_neg (by rintro (h | h); exact h1 h; exact h2 h), List.count_cons, List.count_cons]
      simp [h1, h2]
theorem cqL_app (a b : List UInt8) : cqL (a ++ b) = cqL a + cqL b := by unfold cqL; rw [List.count_append, List.count_append]; omega
theorem escQ_app (a b : List UInt8) : escQ (a ++ b) = escQ a ++ escQ b := List.flatMap_append
theorem escQ_len (l : List UInt8) : (escQ l).length = l.length + cqL l := by
  induction l with
  | nil => rfl
  | cons c t ih =>
    have e1 : escQ (c :: t) = escB c ++ escQ t := rfl
    have e2 : cqL (c :: t) = cqL [c] + cqL t := cqL_app [c] t
    rw [e1, List.length_append, ih, escB_len, e2, List.length_cons]
    omega
theorem cqL_le (l : List UInt8) : cqL l ≤ l.length := by
  induction l with
  | nil => exact Nat.le_refl _
  | cons c t ih =>
    have e2 : cqL (c :: t) = cqL [c] + cqL t := cqL_app [c] t
    have h : cqL [c] ≤ 1 := by
      have := escB_len c
      unfold escB at this
      split at this <;> simp at this <;> omega
    rw [e2, List.length_cons]; omega
theorem escQ_id (l : List UInt8) (h : cqL l = 0) : escQ l = l := by
  induction l with
  | nil => rfl
  | cons c t ih =>
    have e2 : cqL (c :: t) = cqL [c] + cqL t := cqL_app [c] t
    have e1 : escQ (c :: t) = escB c ++ escQ t := rfl
    have h3 := escB_len c
    rw [e1, ih (by omega)]
    unfold escB at h3 ⊢
    split
    · rename_i h4; rw [if_pos h4] at h3; simp at h3; omega
    · rfl
theorem escQ_take (l : List UInt8) (i : Nat) (h : i < l.length) : escQ (l.take (i + 1)) = escQ (l.take i) ++ escB l[i] := by
  rw [List.take_succ_eq_append_getElem h, escQ_app]
  show _ ++ (escB l[i] ++ []) = _
  rw [List.append_nil]
theorem cqL_take (l : List UInt8) (i : Nat) (h : i < l.length) : cqL (l.take (i + 1)) = cqL (l.take i) + cqL [l[i]] := by
  rw [List.take_succ_eq_append_getElem h, cqL_app]
theorem cqL_take_le (l : List UInt8) (i : Nat) : cqL (l.take i) ≤ cqL l := by
  have h := cqL_app (l.take i) (l.drop i)
  rw [List.take_append_drop] at h; omega

theorem splice_take {α : Type} (L cs : List α) (j : Nat) (h : j ≤ L.length) : (splice L j cs).take (j + cs.length) = L.take j ++ cs := by
  unfold splice
  rw [← List.append_assoc]
  have e : j + cs.length = (L.take j ++ cs).length := by rw [List.length_append, List.length_take]; omega
  rw [e, List.take_left]
theorem set_take {α : Type} (L : List α) (v : α) (j : Nat) (h : j < L.length) : (L.set j v).take (j + 1) = L.take j ++ [v] := by
  rw [List.take_succ_eq_append_getElem (by rw [List.length_set]; exact h), List.getElem_set_self, List.take_set_of_le (Nat.le_refl _)]
theorem heap_set {w : World} {g : Nat} {cu : List Value} {T : TypeId} (h : w.heap[g]? = some (.cells cu.toArray T (0, 0))) (j : Nat) (v : Value) : (w.setCell ⟨g, j, none⟩ v).heap[g]? = some (.cells (cu.set j v).toArray T (0, 0)) := by
  simp [World.setCell, Array.getElem?_modify, h]

set_option maxRecDepth 100000 in
set_option maxHeartbeats 16000000 in
theorem replB_any (base B : Nat) (s : List UInt8) (hs : s.length ≤ 140737488351232) (w : World) (hR : RepAt w base B) :
    Calls Tryz.prog 232 #[.pointer (some ⟨B, 0, none⟩), .string ⟨s.toArray⟩] w fun e w' => e = .returned (.string ⟨(escQ s).toArray⟩) ∧ Below w.heap.size w w' := by
  have c34 : ∀ W, Calls Tryz.prog 234 #[.string ⟨s.toArray⟩, .string ⟨#[34]⟩] W fun e w' => e = .returned (.int .i64 (s.count 34 : Nat)) ∧ w' = W := fun W => Tryz.strings_Count_one ⟨s.toArray⟩ 34 W
  have c92 : ∀ W, Calls Tryz.prog 234 #[.string ⟨s.toArray⟩, .string ⟨#[92]⟩] W fun e w' => e = .returned (.int .i64 (s.count 92 : Nat)) ∧ w' = W := fun W => Tryz.strings_Count_one ⟨s.toArray⟩ 92 W
  have hq := cqL_le s
  have hqd : cqL s = s.count 34 + s.count 92 := rfl
  have HR := Lib.hid hR
  obtain ⟨gt, kt, -, t256, tsl⟩ := hR.t
  obtain ⟨gq, kq, -, tq, tqs⟩ := hR.q
  obtain ⟨gs, ks, -, tb, tbs⟩ := hR.s
  have hnn : ∀ w : World, (binOp .neq 108 (.slice none 0 0) (.slice none 0 0)).run Tryz.prog w = .ok (.bool false) w := fun w => by kernel_rfl
  have hns : ∀ (g k : Nat) (w : World), (binOp .neq 108 (.slice (some ⟨g, 0, none⟩) 2 k) (.slice none 0 0)).run Tryz.prog w = .ok (.bool true) w := fun g k w => by kernel_rfl
  obtain ⟨b0, o0, e0, -, x0⟩ := SlOf.cell1 tsl (fun x : ByteArray => .string x) (fun _ => rfl) (k := 0) (by decide)
  obtain ⟨b1, o1, e1, -, x1⟩ := SlOf.cell1 tsl (fun x : ByteArray => .string x) (fun _ => rfl) (k := 1) (by decide)
  cases e0; cases e1
  replace x0 : w.cell? ⟨gt, 0, none⟩ = some (.string ⟨#[34]⟩) := x0
  replace x1 : w.cell? ⟨gt, 1, none⟩ = some (.string ⟨#[92]⟩) := by simpa using x1
  have kle := tsl.le
  have HQ := Lib.hid tqs
  have HS := Lib.hid tbs
  have HQD := Lib.hid hqd
  have hg34 : ∀ h, (⟨#[34]⟩ : ByteArray)[0]'h = 34 := fun _ => rfl
  have hg92 : ∀ h, (⟨#[92]⟩ : ByteArray)[0]'h = 92 := fun _ => rfl
  clear hR tsl tqs tbs hqd
  go_enter Tryz.func232, Tryz.ntmps232
  go_upto_if 26 with (fail)
  go_cut [5, 6] (fun n b ws => n = .int .i64 ((s.length + cqL s : Nat) : Int) ∧ b = .bool (decide (0 < cqL s)) ∧ Below w.heap.size w ws)
  case first =>
    by_cases h16 : (16 : Int) ≤ s.length
    · have h34 : s.count 34 ≤ s.length := List.count_le_length
      have h92 : s.count 92 ≤ s.length := List.count_le_length
      generalize s.count 34 = n34 at *
      generalize s.count 92 = n92 at *
      by_cases z34 : n34 = 0
      · by_cases z92 : n92 = 0
        · subst z34; subst z92
          have HF := Lib.hid (show cqL s = 0 from HQD.out)
          go_wp2_with fail
          refine wp_loop_rounds 3 ?_
          rw [rounds_succ]
          go_wp2_with fail
          with_reducible refine (c34 _).mono ?_
          rintro e w1 ⟨rfl, rfl⟩
          go_wp2_with fail
          rw [rounds_succ]
          go_wp2_with fail
          with_reducible refine (c92 _).mono ?_
          rintro e w1 ⟨rfl, rfl⟩
          go_wp2_with fail
          rw [rounds_succ]
          go_wp2_with fail
          go_meet
          case rel => exact ⟨by rw [HF.out]; rfl, by rw [HF.out]; rfl, Below.refl _ _⟩
        · subst z34
          have g92 : ((n92 : Int) != 0) = true := by rw [bne_iff_ne]; omega
          have HF := Lib.hid (show cqL s = n92 by rw [HQD.out]; omega)
          have hw1 : IntKind.i64.wrap ((s.length : Int) + (n92 : Int)) = (s.length : Int) + (n92 : Int) := by unfold IntKind.wrap; simp [IntKind.bits, IntKind.signed]; omega
          have hw2 : IntKind.i64.wrap (n92 : Int) = (n92 : Int) := by unfold IntKind.wrap; simp [IntKind.bits, IntKind.signed]; omega
          have HP := Lib.hid (show 0 < n92 by omega)
          clear z92
          go_wp2_with fail
          refine wp_loop_rounds 3 ?_
          rw [rounds_succ]
          go_wp2_with fail
          with_reducible refine (c34 _).mono ?_
          rintro e w1 ⟨rfl, rfl⟩
          go_wp2_with fail
          rw [rounds_succ]
          go_wp2_with fail
          with_reducible refine (c92 _).mono ?_
          rintro e w1 ⟨rfl, rfl⟩
          go_wp2_with fail
          go_quiet (fail)
          go_wp2_with fail
          rw [rounds_succ]
          go_wp2_with fail
          go_meet
          case rel => exact ⟨by rw [HF.out]; go_num, by rw [HF.out, decide_eq_true HP.out], Go.below_drewN (Below.refl _ _) _⟩
      · have g34 : ((n34 : Int) != 0) = true := by rw [bne_iff_ne]; omega
        have hw1 : IntKind.i64.wrap ((s.length : Int) + (n34 : Int)) = (s.length : Int) + (n34 : Int) := by unfold IntKind.wrap; simp [IntKind.bits, IntKind.signed]; omega
        have hw2 : IntKind.i64.wrap (n34 : Int) = (n34 : Int) := by unfold IntKind.wrap; simp [IntKind.bits, IntKind.signed]; omega
        by_cases z92 : n92 = 0
        · subst z92
          have HF := Lib.hid (show cqL s = n34 by rw [HQD.out]; omega)
          have HP := Lib.hid (show 0 < n34 by omega)
          clear z34
          go_wp2_with fail
          refine wp_loop_rounds 3 ?_
          rw [rounds_succ]
          go_wp2_with fail
          with_reducible refine (c34 _).mono ?_
          rintro e w1 ⟨rfl, rfl⟩
          go_wp2_with fail
          go_quiet (fail)
          go_wp2_with fail
          rw [rounds_succ]
          go_wp2_with fail
          with_reducible refine (c92 _).mono ?_
          rintro e w1 ⟨rfl, rfl⟩
          go_wp2_with fail
          rw [rounds_succ]
          go_wp2_with fail
          go_meet
          case rel => exact ⟨by rw [HF.out]; go_num, by rw [HF.out, decide_eq_true HP.out], Go.below_drewN (Below.refl _ _) _⟩
        · have g92 : ((n92 : Int) != 0) = true := by rw [bne_iff_ne]; omega
          have hw3 : IntKind.i64.wrap ((s.length : Int) + (n34 : Int) + (n92 : Int)) = (s.length : Int) + (n34 : Int) + (n92 : Int) := by unfold IntKind.wrap; simp [IntKind.bits, IntKind.signed]; omega
          have hw4 : IntKind.i64.wrap (n92 : Int) = (n92 : Int) := by unfold IntKind.wrap; simp [IntKind.bits, IntKind.signed]; omega
          have HF := Lib.hid (show cqL s = n34 + n92 by rw [HQD.out])
          have HP := Lib.hid (show 0 < n34 + n92 by omega)
          clear z92 z34
          go_wp2_with fail
          refine wp_loop_rounds 3 ?_
          rw [rounds_succ]
          go_wp2_with fail
          with_reducible refine (c34 _).mono ?_
          rintro e w1 ⟨rfl, rfl⟩
          go_wp2_with fail
          go_quiet (fail)
          go_wp2_with fail
          rw [rounds_succ]
          go_wp2_with fail
          with_reducible refine (c92 _).mono ?_
          rintro e w1 ⟨rfl, rfl⟩
          go_wp2_with fail
          go_quiet (fail)
          go_wp2_with fail
          rw [rounds_succ]
          go_wp2_with fail
          go_meet
          case rel => exact ⟨by rw [HF.out]; go_num, by rw [HF.out, decide_eq_true HP.out], Go.below_drewN (Below.refl _ _) _⟩
    · clear c34 c92 HQD x0 x1
      go_wp2_with fail
      go_loopw [5, 6, 10] (fun n b x wr => ∃ i : Nat, i ≤ s.length ∧ x = .int .i64 i ∧ n = .int .i64 ((s.length + cqL (s.take i) : Nat) : Int) ∧ b = .bool (decide (0 < cqL (s.take i))) ∧ Below w.heap.size w wr) (fun _ _ x _ => s.length - (intOf x).toNat)
      case atStart => exact ⟨0, Nat.zero_le _, rfl, rfl, rfl, Below.refl _ _⟩
      case round =>
        obtain ⟨i, hi, rfl, rfl, rfl, hbel⟩ := hrel
        have HBE := Lib.hid hbel
        have HRr := Lib.hid (HR.out.keep hbel)
        have q34 := cell_keep' tq hbel
        have q92 := cell_keep' tb hbel
        have hql := Nat.le_trans (cqL_take_le s i) hq
        clear hbel
        by_cases hlt : i < s.length
        · have hget : (⟨s.toArray⟩ : ByteArray)[i]'hlt = s[i] := rfl
          have HT := Lib.hid (cqL_take s i hlt)
          generalize cqL (s.take i) = q at *
          generalize s[i] = c at *
          by_cases h34 : c = 34
          · have HN := Lib.hid (show cqL (s.take (i + 1)) = q + 1 by rw [HT.out, h34]; rfl)
            subst h34
            have hc : (34 : UInt8).toNat = 34 := rfl
            have hwn : IntKind.i64.wrap (((s.length + q : Nat) : Int) + 1) = ((s.length + q : Nat) : Int) + 1 := by unfold IntKind.wrap; simp [IntKind.bits, IntKind.signed]; omega
            go_wp2_with fail
            go_roundw
            case rel => exact ⟨i + 1, by omega, by go_num, by rw [HN.out]; go_num, by rw [HN.out]; simp, HBE.out⟩
            case measure => simp [intOf]; omega
          · by_cases h92 : c = 92
            · have HN := Lib.hid (show cqL (s.take (i + 1)) = q + 1 by rw [HT.out, h92]; rfl)
              subst h92
              have hc : (92 : UInt8).toNat = 92 := rfl
              go_wp2_with fail
              go_roundw
              case rel => exact ⟨i + 1, by omega, by go_num, by rw [HN.out]; go_num, by rw [HN.out]; simp, HBE.out⟩
              case measure => simp [intOf]; omega
            · have HN := Lib.hid (show cqL (s.take (i + 1)) = q by
                rw [HT.out]
                have := escB_len c
                unfold escB at this
                rw [if_neg (by rintro (h | h); exact h92 h; exact h34 h)] at this
                simp at this; omega)
              have hcl : c.toNat < 256 := c.toNat_lt
              have hcell := HRr.out.nil c.toNat hcl (fun h => h34 (UInt8.toNat.inj h)) (fun h => h92 (UInt8.toNat.inj h))
              clear h34 h92
              go_wp2_with fail
              go_roundw
              case rel => exact ⟨i + 1, by omega, by go_num, by rw [HN.out], by rw [HN.out], HBE.out⟩
              case measure => simp [intOf]; omega
        · have : i = s.length := by omega
          subst this
          go_wp2_with fail
          go_meet
          case rel => exact ⟨by rw [List.take_length], by rw [List.take_length], HBE.out⟩
  case rest =>
  obtain ⟨rfl, rfl, hb⟩ := hcut
  clear c34 c92 x0 x1 kle HQD t256
  have HB := Lib.hid hb
  obtain ⟨w1, hw1⟩ : ∃ x, x = wc := ⟨_, rfl⟩
  subst hw1
  by_cases h0 : cqL s = 0
  · have HE := Lib.hid (escQ_id s h0)
    rw [h0]
    clear h0 hb
    go_wp2_with fail
    go_ret
    exact ⟨by rw [HE.out]; rfl, HB.out⟩
  have hdt : decide (0 < cqL s) = true := decide_eq_true (by omega)
  rw [hdt]
  have hEN := escQ_len s
  have HTL := Lib.hid (fun i (h : i ≤ s.length) => (show (escQ (s.take i)).length ≤ s.length + cqL s by
    rw [escQ_len, List.length_take]; have := cqL_take_le s i; omega))
  have hNp : 0 < s.length + cqL s := by omega
  have hNb : s.length + cqL s ≤ 281474976702464 := by omega
  have HH := Lib.hid (fun h : s.length + cqL s = (escQ s).length => h)
  generalize s.length + cqL s = N at *
  have HEN := Lib.hid hEN
  clear HH hdt h0 hq hEN
  obtain ⟨i0, hi, hz0, hz1, hz2⟩ := info_parts (P := Tryz.prog) (e := 5) (z := .int .u8 0) (size := 1) (bytes := 1) (by kernel_rfl)
  have hwz := hb.size
  clear hb
  go_wp2_with (at_make; refine wpList_make_full _ rfl _ _ 108 rfl w.heap.size 5 i0 (.int .u8 0) 1 Tryz.underlying108 hi hz0 hz1 .i64 .i64 _ _ N rfl rfl rfl rfl (by rw [hz2]; omega) (by unfold maxLen; omega) hwz ?_; intro w2 hown hgrow)
  have HB2 := Lib.hid (bstep HB.out (Below.ofGrown hgrow) (Nat.le_refl _))
  clear hgrow hi hz0 hz1 hz2 i0
  have hblk : ∃ cu : List Value, w2.heap[w1.heap.size]? = some (.cells cu.toArray 5 (0, 0)) ∧ cu.length = N := by
    rcases hown.2 with ⟨hv, _⟩ | ⟨g, cap, cur, hv, hbg, hg, hle, hm, hcs, htk⟩
    · cases hv
    · cases hv
      exact ⟨cur.toList, by simpa using hg, by simpa using hcs⟩
  obtain ⟨cu0, hcu0, hcl0⟩ := hblk
  have HCU0 := Lib.hid hcu0
  have HCL0 := Lib.hid hcl0
  clear hown hcu0 hcl0
  have hgw := hwz
  obtain ⟨g, hg⟩ : ∃ g, g = w1.heap.size := ⟨_, rfl⟩
  rw [← hg] at HCU0 hgw ⊢
  clear hg hwz
  go_wp2_with fail
  go_loopw [13, 14] (fun j x wr => ∃ (i : Nat) (cu : List Value), i ≤ s.length ∧ x = .int .i64 i ∧ j = .int .i64 ((escQ (s.take i)).length : Nat) ∧ wr.heap[g]? = some (.cells cu.toArray 5 (0, 0)) ∧ cu.length = N ∧
    cu.take (escQ (s.take i)).length = (escQ (s.take i)).map (fun c => Value.int .u8 (c.toNat : Int)) ∧ Below w.heap.size w wr) (fun _ x _ => s.length - (intOf x).toNat)
  case atStart => exact ⟨0, cu0, Nat.zero_le _, rfl, rfl, HCU0.out, HCL0.out, rfl, HB2.out⟩
  case round =>
    clear HCU0 HCL0 HB2
    obtain ⟨i, cu, hi, rfl, rfl, hblk, hcl, htk, hbel⟩ := hrel
    have HBE := Lib.hid hbel
    have HRr := Lib.hid (HR.out.keep hbel)
    have q34 := cell_keep' tq hbel
    have q92 := cell_keep' tb hbel
    have HTK := Lib.hid htk
    have HBL := Lib.hid hblk
    have HCL := Lib.hid hcl
    clear hbel htk hblk hcl
    by_cases hlt : i < s.length
    · have hget : (⟨s.toArray⟩ : ByteArray)[i]'hlt = s[i] := rfl
      have HT := Lib.hid (escQ_take s i hlt)
      have hJN := HTL.out (i + 1) hlt
      rw [HT.out, List.length_append] at hJN
      generalize escQ (s.take i) = X at *
      generalize s[i] = c at *
      by_cases h34 : c = 34
      · subst h34
        have hE : escB 34 = [92, 34] := rfl
        rw [hE] at HT hJN
        have hc : (34 : UInt8).toNat = 34 := rfl
        have hJ : X.length + 2 ≤ N := by simpa using hJN
        have hJI : (X.length : Int) ≤ (N : Int) := by omega
        have hJl : X.length < N := by omega
        have hJne : ¬ N = X.length := by omega
        have hqs := HQ.out.keep HBE.out (Nat.le_refl _)
        have HQr := Lib.hid hqs
        clear hqs hJN
        go_wp2_with fail
        have hsrc : ∀ j v, ([.int .u8 92, .int .u8 34] : List Value)[j]? = some v → wr.cell? ((⟨gq, 0, none⟩ : Addr).add j) = some v := fun j v hv => by
          rw [Addr.add_lit]
          have hj : j < ([92, 34] : List UInt8).length := (List.getElem?_eq_some_iff.1 hv).1
          obtain ⟨b, o, e, _, h4⟩ := SlOf.cell1 HQr.out (fun x : UInt8 => .int .u8 (x.toNat : Int)) (fun _ => rfl) (k := j) hj
          cases e
          rw [h4]
          rcases (show j = 0 ∨ j = 1 by simp at hj; omega) with rfl | rfl <;> exact hv
        have HSR := Lib.hid hsrc
        have hmn : (2 : Nat) = Nat.min 2 (N - X.length) := (Nat.min_eq_left (by omega)).symm
        have HMN := Lib.hid hmn
        clear hsrc hmn
        have hwj : IntKind.i64.wrap ((X.length : Int) + 2) = (X.length : Int) + 2 := by unfold IntKind.wrap; simp [IntKind.bits, IntKind.signed]; omega
        go_region_law (go_loud (refine step_copy_splice rfl (.tmp 105) (.tmp 111) 108 108 rfl 5 Tryz.underlying108 (by kernel_rfl) (some ⟨g, X.length, none⟩) (some ⟨gq, 0, none⟩) (N - X.length) (N - X.length) 2 kq rfl rfl g X.length cu 5 HBL.out [.int .u8 92, .int .u8 34] HMN.out (fun _ => ⟨rfl, ⟨gq, 0, none⟩, rfl, HSR.out⟩) (by rw [HCL.out]; exact hJ) (by simp [Value.oneCell']) w.heap.size w HBE.out.drew hgw ?_); intro w4 hg4 hb4)
        clear hwj hE hc hg34 hJne hJl
        go_wp2_with fail
        go_roundw
        case rel => exact ⟨i + 1, splice cu X.length [.int .u8 92, .int .u8 34], by omega, by go_num, by rw [HT.out, List.length_append]; go_num, hg4.out, by rw [length_splice _ _ _ (by rw [HCL.out]; exact hJ)]; exact HCL.out, by rw [HT.out, List.length_append, List.map_append, ← HTK.out]; exact splice_take cu [.int .u8 92, .int .u8 34] X.length (by rw [HCL.out]; omega), hb4⟩
        case measure => simp [intOf]; omega
      · by_cases h92 : c = 92
        · subst h92
          have hE : escB 92 = [92, 92] := rfl
          rw [hE] at HT hJN
          have hc : (92 : UInt8).toNat = 92 := rfl
          have hJ : X.length + 2 ≤ N := by simpa using hJN
          have hJI : (X.length : Int) ≤ (N : Int) := by omega
          have hJl : X.length < N := by omega
          have hJne : ¬ N = X.length := by omega
          have hqs := HS.out.keep HBE.out (Nat.le_refl _)
          have HQr := Lib.hid hqs
          clear hqs hJN
          go_wp2_with fail
          have hsrc : ∀ j v, ([.int .u8 92, .int .u8 92] : List Value)[j]? = some v → wr.cell? ((⟨gs, 0, none⟩ : Addr).add j) = some v := fun j v hv => by
            rw [Addr.add_lit]
            have hj : j < ([92, 92] : List UInt8).length := (List.getElem?_eq_some_iff.1 hv).1
            obtain ⟨b, o, e, _, h4⟩ := SlOf.cell1 HQr.out (fun x : UInt8 => .int .u8 (x.toNat : Int)) (fun _ => rfl) (k := j) hj
            cases e
            rw [h4]
            rcases (show j = 0 ∨ j = 1 by simp at hj; omega) with rfl | rfl <;> exact hv
          have HSR := Lib.hid hsrc
          have hmn : (2 : Nat) = Nat.min 2 (N - X.length) := (Nat.min_eq_left (by omega)).symm
          have HMN := Lib.hid hmn
          clear hsrc hmn
          have hwj : IntKind.i64.wrap ((X.length : Int) + 2) = (X.length : Int) + 2 := by unfold IntKind.wrap; simp [IntKind.bits, IntKind.signed]; omega
          go_region_law (go_loud (refine step_copy_splice rfl (.tmp 105) (.tmp 111) 108 108 rfl 5 Tryz.underlying108 (by kernel_rfl) (some ⟨g, X.length, none⟩) (some ⟨gs, 0, none⟩) (N - X.length) (N - X.length) 2 ks rfl rfl g X.length cu 5 HBL.out [.int .u8 92, .int .u8 92] HMN.out (fun _ => ⟨rfl, ⟨gs, 0, none⟩, rfl, HSR.out⟩) (by rw [HCL.out]; exact hJ) (by simp [Value.oneCell']) w.heap.size w HBE.out.drew hgw ?_); intro w4 hg4 hb4)
          clear hwj hE hc hg92 hJne hJl
          go_wp2_with fail
          go_roundw
          case rel => exact ⟨i + 1, splice cu X.length [.int .u8 92, .int .u8 92], by omega, by go_num, by rw [HT.out, List.length_append]; go_num, hg4.out, by rw [length_splice _ _ _ (by rw [HCL.out]; exact hJ)]; exact HCL.out, by rw [HT.out, List.length_append, List.map_append, ← HTK.out]; exact splice_take cu [.int .u8 92, .int .u8 92] X.length (by rw [HCL.out]; omega), hb4⟩
          case measure => simp [intOf]; omega
        · have hE : escB c = [c] := by unfold escB; rw [if_neg (by rintro (h | h); exact h92 h; exact h34 h)]
          rw [hE] at hJN
          have hcl : c.toNat < 256 := c.toNat_lt
          have hcell := HRr.out.nil c.toNat hcl (fun h => h34 (UInt8.toNat.inj h)) (fun h => h92 (UInt8.toNat.inj h))
          rw [hE] at HT
          have hJ : X.length < N := by simp at hJN; omega
          have HD := Lib.hid (show Blk wr g cu.toArray from ⟨_, HBL.out⟩)
          have hx := HD.out.cell X.length (cu[X.length]'(by rw [HCL.out]; exact hJ)) (by rw [List.getElem?_toArray, List.getElem?_eq_getElem])
          have hf := HD.out.free X.length
          clear h34 h92 hE hJN
          go_wp2_with fail
          go_roundw
          case rel => exact ⟨i + 1, cu.set X.length (.int .u8 (c.toNat : Int)), by omega, by go_num, by rw [HT.out, List.length_append]; go_num, heap_set HBL.out _ _, by rw [List.length_set]; exact HCL.out, by rw [HT.out, List.length_append, List.map_append, ← HTK.out]; exact set_take cu _ _ (by rw [HCL.out]; exact hJ), HBE.out.setCell (p := ⟨g, X.length, none⟩) hgw _⟩
          case measure => simp [intOf]; omega
    · have : i = s.length := by omega
      subst this
      have htk := HTK.out
      rw [List.take_length, HEN.out, ← HCL.out, List.take_length] at htk
      have hbk := HBL.out
      rw [htk] at hbk
      have hcv := run_convert_bytes_back (P := Tryz.prog) wr 108 9 5 ⟨g, 0, none⟩ N (escQ s) Tryz.underlying108 Tryz.underlying5 Tryz.underlying9 (fun j hj => by
        rw [Addr.add_lit, cell_of_row _ _ _ _ _ _ hbk, List.getElem?_toArray, List.getElem?_map, Nat.zero_add, List.getElem?_eq_getElem hj]; rfl)
      rw [HEN.out] at hcv
      clear htk hbk
      go_wp2_with fail
      go_ret
      exact ⟨rfl, HBE.out⟩
end Go.Proofs.YtmifjfohanegiaaGreatDoor

namespace Go.Proofs.YtmifjfohanegiaaGreatDoor
set_option linter.unusedVariables false
open Go.RowKit

theorem repMethod (fuel : Nat) (v : Value) (w : World) : (Go.method (fuel + 1) 200 v "Replace").run Tryz.prog w = .ok (232, v) w := by kernel_rfl
set_option maxRecDepth 100000 in
set_option maxHeartbeats 2000000 in
theorem replace_any (r g k : Nat) (base : Nat) (hr : base ≤ r) (s : List UInt8) (hs : s.length ≤ 140737488351232) (w : World) (hk : Blk w r #[.int .u32 0, .int .i32 0, .int .u32 0, .nilIface, .slice (some ⟨g, 0, none⟩) 4 k])
    (hsl : SlOf w enBs 1 (some ⟨g, 0, none⟩) k escT) (hne : g ≠ r) :
    Calls Tryz.prog 24 #[.pointer (some ⟨r, 0, none⟩), .string ⟨s.toArray⟩] w fun e w' => e = .returned (.string ⟨(escQ s).toArray⟩) ∧ Below base w w' := by
  have HD := Lib.hid (do_first r (.int .u32 0) .nilIface (.slice (some ⟨g, 0, none⟩) 4 k) w hk base hr (fun u1 u2 w' => ∃ B, u1 = repV B ∧ RepAt w' (r + 1) B)
    (fun w1 hw1 hk1 => (buildOnce_any r g k _ _ _ _ base hr w1 hk1 (hsl.of_block fun b o e => by cases e; exact hw1 g hne)).mono fun e w' ⟨he, hb, B, hB, hR⟩ => ⟨he, hb, repV B, _, hB, B, rfl, hR⟩)
    (fun u1 u2 w1 w' ⟨B, hu, hR⟩ hw _ => ⟨B, hu, hR.of_heap fun k hk _ => hw k (by omega)⟩))
  have hmf : ∀ (fn : Fn) (first cap : Array Value) (w : World), (Instr.makeFunc fn first cap).run Tryz.prog w = .ok (.func fn first cap) w := fun _ _ _ _ => rfl
  have mR := repMethod
  have hrl0 := hk.lt
  clear hk hsl hne
  go_enter Tryz.func24, Tryz.ntmps24
  go_wp2_with fail
  with_reducible refine HD.out.mono ?_
  rintro e w1 ⟨rfl, hb, u1, u2, hk1, B, rfl, hR⟩
  have HB1 := Lib.hid hb
  have c3 := hk1.cell 3 _ rfl
  have HRB := Lib.hid (replB_any (r + 1) B s hs w1 hR)
  have hrl := hk1.lt
  clear HD hb hk1 hR
  unfold repV at *
  go_wp2_with fail
  with_reducible refine (HRB.out).mono ?_
  rintro e w2 ⟨rfl, hb⟩
  have HB2 := Lib.hid (bstep HB1.out hb (by omega))
  clear hb
  go_wp2_with fail
  go_ret
  exact ⟨rfl, HB2.out⟩

def quoL (s : List UInt8) : List UInt8 := 34 :: (escQ s ++ [34])
theorem strs_appQ (A B : List UInt8) : (⟨A.toArray⟩ : ByteArray) ++ ⟨B.toArray⟩ = ⟨(A ++ B).toArray⟩ := by
  have h : ∀ (a b : ByteArray), a.data.toList = b.data.toList → a = b := fun a b e => by cases a; cases b; simp at e; rw [e]
  apply h
  simp [ByteArray.data_append]
set_option maxRecDepth 100000 in
set_option maxHeartbeats 2000000 in
theorem quote_any (s : List UInt8) (hs : s.length ≤ 140737488351232) (w : World) :
    Calls Tryz.prog 9 #[.string ⟨s.toArray⟩] w fun e w' => e = .returned (.string ⟨(quoL s).toArray⟩) ∧ Below w.heap.size w w' := by
  have HS := Lib.hid (SlOf.lit w enBs 1 (fun _ => rfl) escT #[.string ⟨#[92]⟩, .string ⟨#[92, 92]⟩, .string ⟨#[34]⟩, .string ⟨#[92, 34]⟩] 9 4 rfl rfl (by decide))
  have HB0 := Lib.hid ((Below.refl w.heap.size w).alloc (Nat.le_refl _) (.cells #[.string ⟨#[92]⟩, .string ⟨#[92, 92]⟩, .string ⟨#[34]⟩, .string ⟨#[92, 34]⟩] 9))
  have hlen := escQ_len s
  have hle := cqL_le s
  have hbd : (escQ s).length ≤ 281474976702464 := by omega
  have cR := fun r g k base hr W hk hsl hne => replace_any r g k base hr s hs W hk hsl hne
  clear hlen hle
  obtain ⟨X1, hX1⟩ : ∃ X, X = 34 :: escQ s := ⟨_, rfl⟩
  obtain ⟨X2, hX2⟩ : ∃ X, X = quoL s := ⟨_, rfl⟩
  have hap1 : (⟨#[34]⟩ : ByteArray) ++ ⟨(escQ s).toArray⟩ = ⟨X1.toArray⟩ := by rw [hX1]; exact strs_appQ [34] (escQ s)
  have hap2 : (⟨X1.toArray⟩ : ByteArray) ++ ⟨#[34]⟩ = ⟨X2.toArray⟩ := by rw [hX1, hX2]; exact strs_appQ (34 :: escQ s) [34]
  have hl1 : X1.length = (escQ s).length + 1 := by rw [hX1]; rfl
  have hl1b : X1.length ≤ 281474976702465 := by omega
  have hn1 : ¬ (9223372036854775807 < 1 + (escQ s).length) := by omega
  have hn2 : ¬ (9223372036854775807 < X1.length + 1) := by omega
  rw [← hX2]
  clear hX1 hX2 hl1
  generalize escQ s = E at *
  go_enter Tryz.func9, Tryz.ntmps9
  go_wp2_with fail
  generalize w.alloc (.cells #[.string ⟨#[92]⟩, .string ⟨#[92, 92]⟩, .string ⟨#[34]⟩, .string ⟨#[92, 34]⟩] 9) = w1 at *
  with_reducible refine (newReplacer_any _ _ _ rfl _ HS.out).mono ?_
  rintro e w2 ⟨r, g', k', rfl, hb, hr, hk, hsl, hne⟩
  have HB2 := Lib.hid (bstep HB0.out hb (Nat.le_refl _))
  have HC := Lib.hid (cR r g' k' w.heap.size (by have := HB0.out.size; omega) w2 hk hsl hne)
  clear hb hk hsl hne cR HS HB0
  go_wp2_with fail
  with_reducible refine HC.out.mono ?_
  rintro e w3 ⟨rfl, hb⟩
  have HB3 := Lib.hid (HB2.out.trans hb)
  clear hb HC
  go_wp2_with fail
  go_ret
  exact ⟨rfl, HB3.out⟩
end Go.Proofs.YtmifjfohanegiaaGreatDoor

namespace Go.Proofs.YtmifjfohanegiaaGreatDoor
set_option linter.unusedVariables false
open Go.RowKit Go.Shelf

/-- nothing, or a blank ahead -/
def BlL (r : List UInt8) : Prop := r = [] ∨ ∃ x m, r = x :: m ∧ blankU x.toNat = true
theorem bl_of {x : UInt8} (h : blankU x.toNat = true) : x = 32 ∨ x = 9 ∨ x = 10 ∨ x = 13 := by
  unfold blankU at h
  simp only [Bool.or_eq_true, beq_iff_eq] at h
  rcases h with ((h | h) | h) | h
  · exact .inl (UInt8.toNat.inj h)
  · exact .inr (.inl (UInt8.toNat.inj h))
  · exact .inr (.inr (.inl (UInt8.toNat.inj h)))
  · exact .inr (.inr (.inr (UInt8.toNat.inj h)))
theorem bl_all {p : UInt8 → Bool} (h32 : p 32 = false) (h9 : p 9 = false) (h10 : p 10 = false) (h13 : p 13 = false) : ∀ x : UInt8, blankU x.toNat = true → p x = false := fun x hx => by
  rcases bl_of hx with rfl | rfl | rfl | rfl <;> assumption
theorem tw_ext {p : UInt8 → Bool} (hp : ∀ x : UInt8, blankU x.toNat = true → p x = false) {r : List UInt8} (hr : BlL r) : ∀ (X : List UInt8) (k : Nat), (X.takeWhile p).length ≤ k → (X.take k ++ r).takeWhile p = X.takeWhile p := by
  have h0 : r.takeWhile p = [] := by
    rcases hr with rfl | ⟨x, m, rfl, hx⟩
    · rfl
    · rw [List.takeWhile_cons, hp x hx]; rfl
  intro X
  induction X with
  | nil => intro k _; rw [List.take_nil, List.nil_append, h0]; rfl
  | cons c t ih =>
    intro k hk
    rw [List.takeWhile_cons] at hk ⊢
    cases hc : p c
    · rw [hc] at hk
      cases k with
      | zero => rw [List.take_zero, List.nil_append, h0]; rfl
      | succ k => rw [List.take_succ_cons, List.cons_append, List.takeWhile_cons, hc]; rfl
    · rw [hc] at hk
      simp only [if_true, List.length_cons] at hk
      cases k with
      | zero => omega
      | succ k => rw [List.take_succ_cons, List.cons_append, List.takeWhile_cons, hc, ih k (by omega)]
theorem get_ext {s : List UInt8} {N i : Nat} (r : List UInt8) (hi : i < N) (hN : N ≤ s.length) : (s.take N ++ r)[i]? = s[i]? := by
  rw [List.getElem?_append_left (by rw [List.length_take]; omega), List.getElem?_take, if_pos hi]
theorem get_end {s r : List UInt8} {N : Nat} (hN : N ≤ s.length) (hr : BlL r) : (s.take N ++ r)[N]? = none ∨ ∃ x, (s.take N ++ r)[N]? = some x ∧ blankU x.toNat = true := by
  have hl : (s.take N).length = N := by rw [List.length_take]; omega
  rw [List.getElem?_append_right (by omega), hl, Nat.sub_self]
  rcases hr with rfl | ⟨x, m, rfl, hx⟩
  · exact .inl rfl
  · exact .inr ⟨x, rfl, hx⟩
theorem drop_ext {s : List UInt8} {N j : Nat} (r : List UInt8) (hj : j ≤ N) (hN : N ≤ s.length) : (s.take N ++ r).drop j = (s.drop j).take (N - j) ++ r := by
  rw [List.drop_append_of_le_length (by rw [List.length_take]; omega), List.drop_take]
theorem sgn_ext {s : List UInt8} {N j : Nat} (r : List UInt8) (hj : j < N) (hN : N ≤ s.length) : sgnN ((s.take N ++ r).drop j) = sgnN (s.drop j) := by
  rw [drop_ext r (Nat.le_of_lt hj) hN, List.drop_eq_getElem_cons (show j < s.length by omega), show N - j = (N - j - 1) + 1 by omega, List.take_succ_cons]
  rfl
theorem num3_ext {s r : List UInt8} {N : Nat} (hN : N ≤ s.length) (hr : BlL r) : num3T (s.take N ++ r) N = N := by
  unfold num3T
  rcases get_end hN hr with h | ⟨x, h, hx⟩
  · rw [h]
  · rw [h]
    have := bl_all (p := stopN) (by decide) (by decide) (by decide) (by decide) x hx
    simp [this]
theorem dg_bl : ∀ x : UInt8, blankU x.toNat = true → isDg x = false := bl_all (by decide) (by decide) (by decide) (by decide)
theorem num2_ext {s r : List UInt8} {n N : Nat} (h : num2T s n = N) (h0 : N ≠ 0) (hN : N ≤ s.length) (hr : BlL r) : num2T (s.take N ++ r) n = N := by
  have hend : N = n → num2T (s.take N ++ r) n = N := fun e => by
    subst e
    unfold num2T
    rcases get_end hN hr with h | ⟨x, h, hx⟩
    · rw [h]; exact num3_ext hN hr
    · rw [h]
      have := bl_all (p := isEe) (by decide) (by decide) (by decide) (by decide) x hx
      simp only [this]
      exact num3_ext hN hr
  by_cases hn : n < s.length
  · have h' := h
    unfold num2T at h'
    rw [at_some hn] at h'
    simp only at h'
    split at h'
    · rename_i hE
      split at h'
      · exact absurd h'.symm h0
      · rename_i htw
        have hNe := num3_nz h' h0
        have hlt : n < N := by omega
        unfold num2T
        rw [get_ext r hlt hN, at_some hn]
        simp only [hE, if_true]
        have hpos : 0 < (tw (s.drop (n + 1 + sgnN (s.drop (n + 1))))).length := List.length_pos_iff.2 htw
        have e1 : sgnN ((s.take N ++ r).drop (n + 1)) = sgnN (s.drop (n + 1)) := sgn_ext r (by omega) hN
        rw [e1]
        have e2 : tw ((s.take N ++ r).drop (n + 1 + sgnN (s.drop (n + 1)))) = tw (s.drop (n + 1 + sgnN (s.drop (n + 1)))) := by
          rw [drop_ext r (by omega) hN]
          exact tw_ext dg_bl hr _ _ (by show (tw _).length ≤ _; omega)
        rw [e2, if_neg htw, ← hNe]
        exact num3_ext hN hr
    · exact hend (num3_nz h' h0)
  · rw [num2_end hn] at h
    exact hend h.symm
theorem num1_ext {s r : List UInt8} {n N : Nat} (h : num1T s n = N) (h0 : N ≠ 0) (hN : N ≤ s.length) (hr : BlL r) : num1T (s.take N ++ r) n = N := by
  by_cases hn : n < s.length
  · have h' := h
    unfold num1T at h'
    rw [at_some hn] at h'
    simp only at h'
    split at h'
    · rename_i hE
      split at h'
      · exact absurd h'.symm h0
      · rename_i htw
        obtain ⟨h1, -⟩ := cutE_take h' h0
        have hlt : n < N := by omega
        unfold num1T
        rw [get_ext r hlt hN, at_some hn]
        simp only [hE, if_true]
        have e2 : tw ((s.take N ++ r).drop (n + 1)) = tw (s.drop (n + 1)) := by
          rw [drop_ext r (by omega) hN]
          exact tw_ext dg_bl hr _ _ (by show (tw _).length ≤ _; omega)
        rw [e2, if_neg htw]
        exact num2_ext h' h0 hN hr
    · rename_i hE
      obtain ⟨h1, -⟩ := cutE_take h' h0
      have h2 := num2_ext h' h0 hN hr
      unfold num1T
      by_cases hlt : n < N
      · rw [get_ext r hlt hN, at_some hn]
        simp only
        rw [if_neg hE]; exact h2
      · obtain rfl : N = n := by omega
        rcases get_end hN hr with h3 | ⟨x, h3, hx⟩
        · rw [h3]; exact h2
        · rw [h3]
          have := bl_all (p := fun c => c == 46) (by decide) (by decide) (by decide) (by decide) x hx
          simp only
          rw [if_neg (by simpa using this)]; exact h2
  · rw [num1_end hn] at h
    subst h
    have hN2 : n = s.length := by omega
    unfold num1T
    have h2 : num2T (s.take n ++ r) n = n := num2_ext (num2_end hn) h0 hN hr
    rcases get_end hN hr with h3 | ⟨x, h3, hx⟩
    · rw [h3]; exact h2
    · rw [h3]
      have := bl_all (p := fun c => c == 46) (by decide) (by decide) (by decide) (by decide) x hx
      simp only
      rw [if_neg (by simpa using this)]; exact h2
theorem num_ext {s r : List UInt8} {N : Nat} (h : numN s = N) (h0 : N ≠ 0) (hr : BlL r) : numN (s.take N ++ r) = N := by
  have hN : N ≤ s.length := by have := numN_le s; omega
  have h1 : num1T s (sgnN s + (tw (s.drop (sgnN s))).length) = N := h
  obtain ⟨h2, -⟩ := cutP_take h1 h0
  have e1 : sgnN (s.take N ++ r) = sgnN s := by
    have := sgn_ext (j := 0) r (by omega) hN
    simpa using this
  unfold numN
  rw [e1, drop_ext r (by omega) hN, show tw ((s.drop (sgnN s)).take (N - sgnN s) ++ r) = tw (s.drop (sgnN s)) from tw_ext dg_bl hr _ _ (by show (tw _).length ≤ _; omega)]
  exact num1_ext h1 h0 hN hr

/-! ### texts in quotes -/
theorem endQ_esc : ∀ (t : List UInt8) (i : Nat) (r : List UInt8), endQ false i (escQ t ++ 34 :: r) = some (i + (escQ t).length)
  | [], i, r => rfl
  | c :: t, i, r => by
    have e1 : escQ (c :: t) = escB c ++ escQ t := rfl
    have ih := endQ_esc t
    rw [e1, List.append_assoc, List.length_append]
    unfold escB
    split
    · have h : endQ false i ([92, c] ++ (escQ t ++ 34 :: r)) = endQ false (i + 1 + 1) (escQ t ++ 34 :: r) := rfl
      rw [h, ih]
      show some (i + 1 + 1 + (escQ t).length) = some (i + (2 + (escQ t).length))
      congr 1
      omega
    · rename_i hc
      have h : endQ false i ([c] ++ (escQ t ++ 34 :: r)) = endQ false (i + 1) (escQ t ++ 34 :: r) := by
        show (if c = 92 then _ else if c = 34 then _ else _) = _
        rw [if_neg (fun h => hc (.inl h)), if_neg (fun h => hc (.inr h))]; rfl
      rw [h, ih]
      show some (i + 1 + (escQ t).length) = some (i + (1 + (escQ t).length))
      congr 1
      omega
theorem unq_escQ : ∀ (t acc : List UInt8), unq acc (escQ t ++ [34]) = some (acc ++ t, [34])
  | [], acc => by rw [List.append_nil]; exact unq_quote acc []
  | c :: t, acc => by
    have e1 : escQ (c :: t) = escB c ++ escQ t := rfl
    have ih := unq_escQ t
    rw [e1, List.append_assoc]
    unfold escB
    split
    · rename_i hc
      have h : unq acc ([92, c] ++ (escQ t ++ [34])) = if c = 34 ∨ c = 92 then unq (acc ++ [c]) (escQ t ++ [34]) else none := unq_esc
      rw [h, if_pos hc.symm, ih, List.append_assoc]
      rfl
    · rename_i hc
      have h : unq acc ([c] ++ (escQ t ++ [34])) = unq (acc ++ [c]) (escQ t ++ [34]) := unq_plain (fun h => hc (.inr h)) (fun h => hc (.inl h))
      rw [h, ih, List.append_assoc]
      rfl
theorem unqL_quo {t : List UInt8} (h : mayN t = 0) : unqL (quoL t) = .good t := by
  have e : ∃ a u, escQ t ++ [34] = a :: u := by
    cases h : escQ t with
    | nil => exact ⟨34, [], rfl⟩
    | cons a u => exact ⟨a, u ++ [34], rfl⟩
  obtain ⟨a, u, e⟩ := e
  have h2 := unq_escQ t []
  unfold quoL
  rw [e] at h2 ⊢
  show unqEnd (unq [] (a :: u)) = _
  rw [h2]
  show unqFin t = _
  unfold unqFin
  rw [if_pos h]
theorem unq_may {x t : List UInt8} (h : unqL x = .good t) : mayN t = 0 := by
  unfold unqL at h
  split at h
  · cases h
  · cases h
  · split at h
    · unfold unqEnd at h
      split at h
      · cases h
      · cases h
      · split at h
        · unfold unqFin at h
          split at h
          · rename_i h2
            cases h; exact h2
          · cases h
        · cases h
    · cases h
theorem textR_may {s t : List UInt8} {k : Int} {n : Nat} (h : textR s = .good k t n) : mayN t = 0 := by
  unfold textR at h
  split at h
  · cases h
  · split at h
    · split at h <;> cases h
    · rename_i h2
      cases h; exact unq_may h2
theorem textR_quo {t : List UInt8} (h : mayN t = 0) (r : List UInt8) : textR (quoL t ++ r) = .good 3 t (quoL t).length := by
  have e0 : (quoL t ++ r).drop 1 = escQ t ++ 34 :: r := by unfold quoL; simp
  have hl : (quoL t).length = 1 + (escQ t).length + 1 := by unfold quoL; simp; omega
  unfold textR
  rw [e0, endQ_esc]
  simp only
  rw [show 1 + (escQ t).length + 1 = (quoL t).length from hl.symm, List.take_left, unqL_quo h]

/-! ### pieces -/
def pieceT (k : Int) (t : List UInt8) : List UInt8 := if k = 3 then quoL t else t
theorem tok_piece {s : List UInt8} (hne : s ≠ []) {k : Int} {t : List UInt8} {n : Nat} (h : tokR s = .good k t n) {r : List UInt8} (hr : BlL r) : tokR (pieceT k t ++ r) = .good k t (pieceT k t).length := by
  have hn := tok_n s hne h
  obtain ⟨c, u, rfl⟩ := List.exists_cons_of_ne_nil hne
  have hb := tok_bytes c u
  rw [hb] at h
  have hcons : ∀ m, 1 ≤ m → (c :: u).take m ++ r = c :: (u.take (m - 1) ++ r) := fun m hm => by
    rw [show m = (m - 1) + 1 by omega, List.take_succ_cons]; rfl
  split at h
  · rename_i h1
    cases h
    have hld : ldC c = true := by unfold ldC; rw [h1]; rfl
    have hpos : 1 ≤ nameN (c :: u) := by unfold nameN; rw [List.takeWhile_cons, hld]; simp
    have hnm : nameN ((c :: u).take (nameN (c :: u)) ++ r) = nameN (c :: u) := by
      have := tw_ext (p := ldC) (bl_all (by decide) (by decide) (by decide) (by decide)) hr (c :: u) (nameN (c :: u)) (Nat.le_refl _)
      show (List.takeWhile ldC _).length = _
      rw [this]; rfl
    have hl : ((c :: u).take (nameN (c :: u))).length = nameN (c :: u) := by rw [List.length_take]; exact Nat.min_eq_left hn
    show tokR ((c :: u).take (nameN (c :: u)) ++ r) = .good 1 _ ((c :: u).take (nameN (c :: u))).length
    have e := hcons _ hpos
    rw [hl, e, tok_bytes, if_pos h1, ← e, hnm, List.take_left' hl]
  · rename_i h1
    split at h
    · rename_i h2
      split at h
      · cases h
      · rename_i h3
        cases h
        have hl : ((c :: u).take (numN (c :: u))).length = numN (c :: u) := by rw [List.length_take]; exact Nat.min_eq_left hn
        have e := hcons (numN (c :: u)) (by omega)
        have hnm := num_ext (s := c :: u) rfl h3 hr
        have hsg : sgC c.toNat ((c :: u).take (numN (c :: u)) ++ r) = sgC c.toNat (c :: u) := by
          unfold sgC
          by_cases hlt : 1 < numN (c :: u)
          · rw [get_ext r hlt hn]
          · have hN1 : numN (c :: u) = 1 := by omega
            have hdg : dgU c.toNat = true := by
              rw [Bool.or_eq_true] at h2
              rcases h2 with h2 | h2
              · exact h2
              · exfalso
                have h5 := num_first c u (by rw [h2]; simp)
                have h6 : num1T (c :: u) (sgnN (c :: u) + (tw ((c :: u).drop (sgnN (c :: u)))).length) = 1 := hN1
                obtain ⟨h7, -⟩ := cutP_take h6 (by decide)
                have h8 := List.length_pos_iff.2 h5
                have h9 : sgnN (c :: u) = 1 := by
                  unfold sgC at h2
                  rw [Bool.and_eq_true, Bool.or_eq_true, beq_iff_eq, beq_iff_eq] at h2
                  show (if isSg c = true then 1 else 0) = 1
                  rw [if_pos ((isSg_iff c).2 (h2.1.imp (fun h => UInt8.toNat.inj h) (fun h => UInt8.toNat.inj h)))]
                omega
            have : (c.toNat == 43 || c.toNat == 45) = false := by
              rw [dgU_iff] at hdg
              rw [Bool.or_eq_false_iff, beq_eq_false_iff_ne, beq_eq_false_iff_ne]; omega
            rw [this]; rfl
        show tokR ((c :: u).take (numN (c :: u)) ++ r) = .good 2 _ ((c :: u).take (numN (c :: u))).length
        rw [hl]
        rw [e] at hsg hnm ⊢
        rw [tok_bytes, if_neg h1, hsg, if_pos h2, hnm, if_neg h3, ← e, List.take_left' hl]
    · rename_i h2
      split at h
      · rename_i h3
        have hk : k = 3 := by
          unfold textR at h
          split at h
          · cases h
          · split at h
            · split at h <;> cases h
            · cases h; rfl
        have hm := textR_may h
        subst hk
        show tokR (quoL t ++ r) = .good 3 t (quoL t).length
        have e : quoL t ++ r = 34 :: ((escQ t ++ [34]) ++ r) := rfl
        rw [e, tok_bytes, if_neg (by decide), if_neg (by simp [sgC, dgU]), if_pos rfl, ← e]
        exact textR_quo hm r
      · rename_i h3
        have hc2 : dgU c.toNat = false := by rw [Bool.not_eq_true, Bool.or_eq_false_iff] at h2; exact h2.1
        split at h
        · rename_i h4
          cases h
          show tokR ([c] ++ r) = .good 4 [c] 1
          have hs2 : sgC c.toNat (c :: r) = false := by
            unfold sgC
            have : (c.toNat == 43 || c.toNat == 45) = false := by
              rw [Bool.or_eq_false_iff, beq_eq_false_iff_ne, beq_eq_false_iff_ne]
              constructor <;> intro h5 <;> rw [h5] at h4 <;> exact absurd h4 (by decide)
            rw [this]; rfl
          rw [show [c] ++ r = c :: r from rfl, tok_bytes, if_neg h1, hc2, hs2, if_neg (by decide), if_neg h3, if_pos h4]
        · rename_i h4
          split at h
          · rename_i h5
            cases h
            have hl3 := ordB_len h5
            have hl : ((c :: u).take 3).length = 3 := by rw [List.length_take]; omega
            have e := hcons 3 (by decide)
            have ho : ordB ((c :: u).take 3 ++ r) = true := by
              unfold ordB at h5 ⊢
              rw [List.take_left' hl]; exact h5
            have hc64 : c = 64 := by
              unfold ordB at h5
              simp only [Bool.or_eq_true, beq_iff_eq, List.take_succ_cons] at h5
              rcases h5 with ((h5 | h5) | h5) | h5 <;> exact (List.cons.inj h5).1
            show tokR ((c :: u).take 3 ++ r) = .good 4 _ ((c :: u).take 3).length
            rw [hl]
            have hs2 : sgC c.toNat ((c :: u).take 3 ++ r) = false := by rw [hc64]; rfl
            rw [e] at ho hs2 ⊢
            rw [tok_bytes, if_neg h1, hc2, hs2, if_neg (by decide), if_neg h3, if_neg h4, if_pos ho, ← e, List.take_left' hl]
          · cases h
/-- a token's piece begins with what is no blank -/
theorem tok_nb {c : UInt8} {u : List UInt8} {k : Int} {t : List UInt8} {n : Nat} (h : tokR (c :: u) = .good k t n) : blankU c.toNat = false := by
  cases hb : blankU c.toNat
  · rfl
  · exfalso
    rw [tok_bytes] at h
    rcases bl_of hb with rfl | rfl | rfl | rfl
    all_goals
      rw [if_neg (by decide), if_neg (by simp [sgC, dgU]), if_neg (by decide), if_neg (by decide), if_neg (by simp [ordB])] at h
      cases h
end Go.Proofs.YtmifjfohanegiaaGreatDoor

namespace Go.Proofs.YtmifjfohanegiaaGreatDoor
set_option linter.unusedVariables false
open Go.RowKit Go.Shelf

/-! ### what is fine -/
theorem decN_trunc {n b0 b1 b2 b3 c1 c2 c3 : Nat} (hn : 1 ≤ n) (e1 : 2 ≤ (Lib.decodeN n b0 b1 b2 b3).2 → c1 = b1) (e2 : 3 ≤ (Lib.decodeN n b0 b1 b2 b3).2 → c2 = b2) (e3 : 4 ≤ (Lib.decodeN n b0 b1 b2 b3).2 → c3 = b3)
    (hill : ¬ ((Lib.decodeN n b0 b1 b2 b3).1 = 65533 ∧ (Lib.decodeN n b0 b1 b2 b3).2 = 1)) : Lib.decodeN (Lib.decodeN n b0 b1 b2 b3).2 b0 c1 c2 c3 = Lib.decodeN n b0 b1 b2 b3 := by
  by_cases h1 : b0 < 128
  · have e : ∀ m x y z, Lib.decodeN m b0 x y z = (b0, 1) := fun m x y z => by unfold Lib.decodeN; rw [if_pos h1]
    rw [e, e]
  obtain ⟨R, k, e⟩ : ∃ R k, Lib.decodeN n b0 b1 b2 b3 = (R, k) := ⟨_, _, rfl⟩
  rw [e] at e1 e2 e3 hill ⊢
  simp only at e1 e2 e3 hill ⊢
  unfold Lib.decodeN at e ⊢
  rw [if_neg h1] at e ⊢
  split at e
  · rename_i h2
    split at e
    · rename_i h3
      cases e
      obtain rfl := e1 (by decide)
      rw [if_pos ⟨h2.1, by decide, h2.2.2⟩, if_pos h3]
    · cases e; exact absurd ⟨rfl, rfl⟩ hill
  rename_i h2
  split at e
  · rename_i h3
    split at e
    · rename_i h4
      cases e
      obtain rfl := e1 (by decide)
      obtain rfl := e2 (by decide)
      rw [if_neg (by omega), if_pos (by omega), if_pos h4]
    · cases e; exact absurd ⟨rfl, rfl⟩ hill
  rename_i h3
  split at e
  · rename_i h4
    split at e
    · rename_i h5
      cases e
      obtain rfl := e1 (by decide)
      obtain rfl := e2 (by decide)
      obtain rfl := e3 (by decide)
      rw [if_neg (by omega), if_neg (by omega), if_pos (by omega), if_pos h5]
    · cases e; exact absurd ⟨rfl, rfl⟩ hill
  · cases e; exact absurd ⟨rfl, rfl⟩ hill
theorem take_ne {s : List UInt8} {n : Nat} (h1 : 1 ≤ n) (h2 : n ≤ s.length) : s.take n ≠ [] := by
  intro h0
  have h := congrArg List.length h0
  rw [List.length_take, Nat.min_eq_left h2] at h
  have h3 : n = 0 := h
  omega
theorem dec_self (s : List UInt8) (hne : s ≠ []) (hill : illU (decL s).1 (decL s).2 = false) : decL (s.take (decL s).2) = decL s := by
  have hpos : 0 < s.length := List.length_pos_iff.2 hne
  have hw := dec_w s
  have hw2 := hw.2.2 hne
  have hi : ¬ ((decL s).1 = 65533 ∧ (decL s).2 = 1) := by
    rintro ⟨h1, h2⟩; unfold illU at hill; rw [h1, h2] at hill; exact absurd hill (by decide)
  have hg : ∀ j, j < (decL s).2 → (s.take (decL s).2).getD j 0 = s.getD j 0 := fun j hj => by
    rw [List.getD_eq_getElem?_getD, List.getElem?_take, if_pos hj, List.getD_eq_getElem?_getD]
  have hl : (s.take (decL s).2).length = (decL s).2 := by rw [List.length_take]; omega
  have key : decL (s.take (decL s).2) = Lib.decodeN (decL s).2 (s.getD 0 0).toNat ((s.take (decL s).2).getD 1 0).toNat ((s.take (decL s).2).getD 2 0).toNat ((s.take (decL s).2).getD 3 0).toNat := by
    show Lib.decodeN _ _ _ _ _ = _
    rw [hl, hg 0 (by omega)]
  rw [key]
  exact decN_trunc hpos (fun h => by rw [hg 1 h]) (fun h => by rw [hg 2 h]) (fun h => by rw [hg 3 h]) hi
/-- the head of a fine text, up to where a unit begins, is fine -/
theorem Bnd.fine {s : List UInt8} {p q : Int × Int} {n : Nat} (h : Bnd s p n q) : fineF s.length s → fineF n (s.take n) ∧ fineF (s.length - n) (s.drop n) := by
  induction h with
  | zero s p => intro hf; exact ⟨fine_nil _, by simpa using hf⟩
  | step s p n q hne h ih =>
    intro hf
    have hw := dec_w s
    have hw2 := hw.2.2 hne
    have hf' := hf
    rw [show s.length = (s.length - 1) + 1 by have := List.length_pos_iff.2 hne; omega, fine_cons hne] at hf'
    have hd : fineF (s.drop (decL s).2).length (s.drop (decL s).2) := fine_fuel _ _ _ (by rw [List.length_drop]; omega) (Nat.le_refl _) hf'.2
    obtain ⟨i1, i2⟩ := ih hd
    have hn := h.le
    rw [List.length_drop] at hn i2
    constructor
    · have e : s.take ((decL s).2 + n) = s.take (decL s).2 ++ (s.drop (decL s).2).take n := by rw [List.take_add]
      have hu : fineF (decL s).2 (s.take (decL s).2) := by
        have hne2 : s.take (decL s).2 ≠ [] := take_ne hw.1 hw2
        rw [show (decL s).2 = ((decL s).2 - 1) + 1 by omega, fine_cons (by rw [show (decL s).2 - 1 + 1 = (decL s).2 by omega]; exact hne2)]
        rw [show (decL s).2 - 1 + 1 = (decL s).2 by omega, dec_self s hne (bad_ill hf'.1)]
        exact ⟨hf'.1, by rw [List.drop_take, Nat.sub_self, List.take_zero]; exact fine_nil _⟩
      rw [e]
      refine fine_app _ _ _ _ (by rw [List.length_take]; omega) (by rw [List.length_append, List.length_take, List.length_take]; omega) hu ?_
      exact fine_fuel _ _ _ (by rw [List.length_take]; omega) (Nat.le_refl _) i1
    · rw [← List.drop_drop]
      rw [show s.length - ((decL s).2 + n) = s.length - (decL s).2 - n by omega]
      exact i2
theorem fine_one (c : UInt8) (h : c.toNat < 128) (hb : badU c.toNat 1 = false) : fineF 1 [c] := by
  rw [fine_cons (List.cons_ne_nil _ _), dec_ascii c [] h]
  exact ⟨hb, fine_nil _⟩
/-- fine, and no control at all -/
def plnF (s : List UInt8) : Prop := ∀ u ∈ unitsF s.length s (1, 1), illU u.rune u.wide = false ∧ ctlU u.rune = false
theorem may_pln {t : List UInt8} (h : mayN t = 0) : plnF t := by
  unfold mayN at h
  split at h
  · cases h
  · split at h
    · cases h
    · rename_i h2
      rw [Bool.not_eq_true, Bool.or_eq_false_iff] at h2
      intro u hu
      have h3 := List.any_eq_false.1 h2.1 u hu
      have h4 := List.any_eq_false.1 h2.2 u hu
      exact ⟨by simpa using h3, by simpa using h4⟩
theorem pln_fine {t : List UInt8} (h : plnF t) : fineF t.length t := fun u hu => by
  unfold badU
  rw [(h u hu).1, (h u hu).2]; rfl
theorem escQ_high : ∀ (l : List UInt8), (∀ c ∈ l, 128 ≤ c.toNat) → escQ l = l
  | [], _ => rfl
  | c :: t, h => by
    have e1 : escQ (c :: t) = escB c ++ escQ t := rfl
    have hc := h c (List.mem_cons_self ..)
    rw [e1, escQ_high t (fun d hd => h d (List.mem_cons_of_mem _ hd))]
    unfold escB
    rw [if_neg (by rintro (rfl | rfl) <;> exact absurd hc (by decide))]
    rfl
theorem esc_fine : ∀ (f : Nat) (t : List UInt8), t.length ≤ f → fineF f t → fineF (escQ t).length (escQ t)
  | 0, t, hf, _ => by
    have : t = [] := List.length_eq_zero_iff.1 (by omega)
    subst this; exact fine_nil _
  | f + 1, t, hf, h => by
    by_cases h0 : t = []
    · subst h0; exact fine_nil _
    rw [fine_cons h0] at h
    have hw := dec_w t
    have hw2 := hw.2.2 h0
    have ih := esc_fine f (t.drop (decL t).2) (drop_short hf) h.2
    have hsp : t = t.take (decL t).2 ++ t.drop (decL t).2 := (List.take_append_drop _ _).symm
    have he : escQ t = escQ (t.take (decL t).2) ++ escQ (t.drop (decL t).2) := by rw [← escQ_app, List.take_append_drop]
    rw [he]
    refine fine_app _ _ _ _ (Nat.le_refl _) (Nat.le_refl _) ?_ ih
    by_cases hr : (decL t).1 < 128
    · obtain ⟨a, u, rfl⟩ := List.exists_cons_of_ne_nil h0
      obtain ⟨e, h1⟩ := dec_low a u hr
      rw [e] at h ⊢
      show fineF (escQ [a]).length (escQ [a])
      have e2 : escQ [a] = escB a := by show escB a ++ [] = _; rw [List.append_nil]
      rw [e2]
      unfold escB
      split
      · exact fine_app 1 [92] [a] 2 (Nat.le_refl _) (Nat.le_refl _) (fine_one 92 (by decide) (by decide)) (fine_one a h1 h.1)
      · exact fine_one a h1 h.1
    · rw [escQ_high _ (dec_conts t (by omega) h0)]
      have hne2 : t.take (decL t).2 ≠ [] := take_ne hw.1 hw2
      have hl : (t.take (decL t).2).length = ((decL t).2 - 1) + 1 := by rw [List.length_take]; omega
      rw [hl, fine_cons hne2, dec_self t h0 (bad_ill h.1)]
      exact ⟨h.1, by rw [List.drop_take, Nat.sub_self, List.take_zero]; exact fine_nil _⟩
theorem quo_fine {t : List UInt8} (h : mayN t = 0) : fineF (quoL t).length (quoL t) := by
  have h1 := esc_fine _ _ (Nat.le_refl _) (pln_fine (may_pln h))
  have h2 : fineF (escQ t ++ [34]).length (escQ t ++ [34]) := fine_app _ _ _ _ (Nat.le_refl _) (Nat.le_refl _) h1 (fine_one 34 (by decide) (by decide))
  exact fine_app 1 [34] (escQ t ++ [34]) _ (Nat.le_refl _) (by unfold quoL; simp) (fine_one 34 (by decide) (by decide)) h2
theorem bl_fine : ∀ (b : List UInt8), (∀ c ∈ b, blankU c.toNat = true) → fineF b.length b
  | [], _ => fine_nil _
  | c :: t, h => by
    have hc := h c (List.mem_cons_self ..)
    refine fine_app 1 [c] t _ (Nat.le_refl _) (Nat.le_refl _) (fine_one c (blankU_low hc) ?_) (bl_fine t fun d hd => h d (List.mem_cons_of_mem _ hd))
    unfold badU
    rw [hc, Bool.not_true, Bool.and_false, Bool.or_false]
    unfold illU
    rw [Bool.and_eq_false_iff, beq_eq_false_iff_ne]
    have := blankU_low hc
    exact .inl (by omega)

/-! ### written anew -/
def joinB : List (List UInt8) → List TokD → List UInt8
  | b :: bs, t :: ts => b ++ (pieceT t.kind t.text ++ joinB bs ts)
  | _, _ => []
def bls (b : List UInt8) : Prop := ∀ c ∈ b, blankU c.toNat = true
theorem RefI.blanks {s : List UInt8} {V : ScanR} : ∀ (b : List UInt8) (i : Nat) (acc : List TokD) (q : Int × Int) (r : List UInt8), RefI s V i acc q → s.drop i = b ++ r → bls b → ∃ q', RefI s V (i + b.length) acc q'
  | [], i, acc, q, r, h, _, _ => ⟨q, h⟩
  | c :: b, i, acc, q, r, h, hd, hb => by
    have hlt : i < s.length := by
      rcases Nat.lt_or_ge i s.length with h1 | h1
      · exact h1
      · rw [List.drop_eq_nil_of_le h1] at hd; cases hd
    have h2 := List.drop_eq_getElem_cons hlt
    rw [hd] at h2
    obtain ⟨e1, e2⟩ := List.cons.inj h2
    obtain ⟨q', h3⟩ := h.blank hlt (by rw [← e1]; exact hb c (List.mem_cons_self ..))
    obtain ⟨q2, h4⟩ := RefI.blanks b (i + 1) acc q' r h3 e2.symm (fun d hd => hb d (List.mem_cons_of_mem _ hd))
    exact ⟨q2, by rw [List.length_cons, show i + (b.length + 1) = i + 1 + b.length by omega]; exact h4⟩
def KT (l : List TokD) : List (Int × List UInt8) := l.map fun t => (t.kind, t.text)
theorem chain_join {s : List UInt8} {n : Nat} {l : List TokD} (hc : Chain s n l) : ∀ (bs : List (List UInt8)), bs.length = l.length → (∀ b ∈ bs, bls b) → (∀ b ∈ bs.tail, b ≠ []) →
    ∀ (O : List UInt8) (V : ScanR) (i : Nat) (acc : List TokD) (q : Int × Int), O.drop i = joinB bs l → RefI O V i acc q → ∃ l', V = .good (acc ++ l') ∧ KT l' = KT l := by
  induction hc with
  | fin n q0 hn hb =>
    intro bs hl hbl hne O V i acc q hd hI
    obtain ⟨b, rfl⟩ : ∃ b, bs = [b] := by
      rcases bs with _ | ⟨b, _ | ⟨b', t⟩⟩
      · simp at hl
      · exact ⟨b, rfl⟩
      · simp at hl
    have hd2 : O.drop i = b ++ [] := by
      rw [hd]
      show b ++ (pieceT 0 [] ++ []) = _
      rfl
    obtain ⟨q', h2⟩ := RefI.blanks b i acc q [] hI hd2 (hbl b (List.mem_cons_self ..))
    have hlen := congrArg List.length hd2
    rw [List.length_drop, List.append_nil] at hlen
    have hk := hI.hk
    exact ⟨[endTok q'], h2.fin (by omega), rfl⟩
  | tok n k m t r hn hi hb ht hm hr ih =>
    intro bs hl hbl hne O V i acc q hd hI
    rcases bs with _ | ⟨b, bs⟩
    · simp at hl
    have hd2 : O.drop i = b ++ (pieceT t.kind t.text ++ joinB bs r) := hd
    obtain ⟨q', h2⟩ := RefI.blanks b i acc q _ hI hd2 (hbl b (List.mem_cons_self ..))
    have hd3 : O.drop (i + b.length) = pieceT t.kind t.text ++ joinB bs r := by
      rw [← List.drop_drop, hd2, List.drop_left]
    have hbl2 : BlL (joinB bs r) := by
      rcases bs with _ | ⟨b2, bs⟩
      · exact .inl rfl
      · rcases r with _ | ⟨t2, r⟩
        · exact .inl rfl
        · have h5 := hne b2 (List.mem_cons_self ..)
          obtain ⟨x, y, rfl⟩ := List.exists_cons_of_ne_nil h5
          exact .inr ⟨x, _, rfl, hbl (x :: y) (List.mem_cons_of_mem _ (List.mem_cons_self ..)) x (List.mem_cons_self ..)⟩
    have hne0 : s.drop k ≠ [] := by intro h0; have := congrArg List.length h0; rw [List.length_drop] at this; simp at this; omega
    have htk := tok_piece hne0 ht hbl2
    rw [← hd3] at htk
    have hlt : i + b.length < O.length := by
      rcases Nat.lt_or_ge (i + b.length) O.length with h1 | h1
      · exact h1
      · exfalso
        rw [List.drop_eq_nil_of_le h1] at htk
        have : tokR [] = .bad 7 := by kernel_rfl
        rw [this] at htk; cases htk
    have hdc := List.drop_eq_getElem_cons hlt
    have hnb : blankU O[i + b.length].toNat = false := by
      rw [hdc] at htk
      exact tok_nb htk
    obtain ⟨h1, q2, h3⟩ := h2.good hlt hnb htk
    have hd4 : O.drop (i + b.length + (pieceT t.kind t.text).length) = joinB bs r := by
      rw [← List.drop_drop, hd3, List.drop_left]
    obtain ⟨l', h4, h5⟩ := ih bs (by simpa using hl) (fun x hx => hbl x (List.mem_cons_of_mem _ hx)) (fun x hx => hne x (List.mem_of_mem_tail hx)) O V _ _ _ hd4 h3
    refine ⟨⟨t.kind, t.text, q'.1, q'.2⟩ :: l', by rw [h4, List.append_assoc]; rfl, ?_⟩
    show (t.kind, t.text) :: KT l' = (t.kind, t.text) :: KT r
    rw [h5]
/-- the end of a token is where a unit begins -/
theorem chain_fine {s : List UInt8} (hs : fineF s.length s) {n : Nat} {l : List TokD} (hc : Chain s n l) : ∀ (bs : List (List UInt8)), bs.length = l.length → (∀ b ∈ bs, bls b) → fineF (joinB bs l).length (joinB bs l) := by
  induction hc with
  | fin n q0 hn hb =>
    intro bs hl hbl
    obtain ⟨b, rfl⟩ : ∃ b, bs = [b] := by
      rcases bs with _ | ⟨b, _ | ⟨b', t⟩⟩
      · simp at hl
      · exact ⟨b, rfl⟩
      · simp at hl
    have e : joinB [b] [endTok q0] = b := by show b ++ (pieceT 0 [] ++ []) = b; unfold pieceT; simp
    rw [e]
    exact bl_fine b (hbl b (List.mem_cons_self ..))
  | tok n k m t r hn hi hb ht hm hr ih =>
    intro bs hl hbl
    rcases bs with _ | ⟨b, bs⟩
    · simp at hl
    have ih2 := ih bs (by simpa using hl) (fun x hx => hbl x (List.mem_cons_of_mem _ hx))
    have hb2 := bl_fine b (hbl b (List.mem_cons_self ..))
    have hne0 : s.drop k ≠ [] := by intro h0; have := congrArg List.length h0; rw [List.length_drop] at this; simp at this; omega
    have hp : fineF (pieceT t.kind t.text).length (pieceT t.kind t.text) := by
      by_cases h3 : t.kind = 3
      · have hmay : mayN t.text = 0 := by
          obtain ⟨c, u, hcu⟩ := List.exists_cons_of_ne_nil hne0
          rw [h3, hcu, tok_bytes] at ht
          split at ht
          · cases ht
          · split at ht
            · split at ht <;> cases ht
            · split at ht
              · exact textR_may ht
              · split at ht
                · cases ht
                · split at ht <;> cases ht
        unfold pieceT
        rw [if_pos h3]
        exact quo_fine hmay
      · unfold pieceT
        rw [if_neg h3]
        have htx := tok_text ht h3
        have hdf := (hb.fine hs).2
        rw [← List.length_drop] at hdf
        obtain ⟨c, u, hcu⟩ := List.exists_cons_of_ne_nil hne0
        have hl := ht
        rw [hcu] at hl
        obtain ⟨h1, d, hd, hd2⟩ := tok_last c u hl
        rw [← hcu] at hd
        obtain ⟨q', hq⟩ := bnd_low _ (s.drop k) (1, 1) m d (Nat.le_refl _) h1 hd hd2
        have h5 := (hq.fine hdf).1
        rw [← htx] at h5
        have hml := tok_n _ hne0 ht
        exact fine_fuel _ _ _ (by rw [htx, List.length_take]; omega) (Nat.le_refl _) h5
    refine fine_app _ _ _ _ (Nat.le_refl _) (Nat.le_refl _) hb2 ?_
    exact fine_app _ _ _ _ (Nat.le_refl _) (Nat.le_refl _) hp ih2
theorem scanL_good' {s : List UInt8} {l : List TokD} (h : scanL s = .good l) : fineF s.length s := by
  rw [← check_fine]
  unfold scanL at h
  split at h
  · cases h
  · split at h
    · assumption
    · cases h
theorem blanks_plain {s : List UInt8} {l : List TokD} (h : scanL s = .good l) (bs : List (List UInt8)) (hl : bs.length = l.length) (hbl : ∀ b ∈ bs, bls b) (hne : ∀ b ∈ bs.tail, b ≠ []) (hlen : (joinB bs l).length ≤ 1048576) :
    ∃ l', scanL (joinB bs l) = .good l' ∧ KT l' = KT l := by
  have hf := chain_fine (scanL_good' h) (scanL_chain h) bs hl hbl
  have hc := (check_fine _).2 hf
  have e : scanL (joinB bs l) = scanF (joinB bs l).length (joinB bs l) 0 (1, 1) [] := by
    unfold scanL
    rw [if_neg (by omega), hc]
  obtain ⟨l', h2, h3⟩ := chain_join (scanL_chain h) bs hl hbl hne (joinB bs l) (scanL (joinB bs l)) 0 [] (1, 1) rfl ⟨Nat.zero_le _, .zero _ _, e⟩
  exact ⟨l', by simpa using h2, h3⟩
end Go.Proofs.YtmifjfohanegiaaGreatDoor

namespace Go.Proofs.YtmifjfohanegiaaGreatDoor
set_option linter.unusedVariables false
open Go.RowKit

set_option maxHeartbeats 1000000 in
theorem pick_any (n : Int) (hn : -9223372036854775808 ≤ n ∧ n ≤ 9223372036854775807) (m : Nat) (hm : 0 < m) (hm2 : m < 9223372036854775807) (w : World) :
    Calls Tryz.prog 22 #[.int .i64 n, .int .i64 m] w fun e w' => ∃ k : Nat, k < m ∧ e = .returned (.int .i64 k) ∧ Below w.heap.size w w' := by
  have h1 : n.tmod (m : Int) < m := Int.tmod_lt_of_pos n (by omega)
  have h2 : -(m : Int) < n.tmod (m : Int) := by
    have := Int.tmod_lt_of_pos (-n) (show (0 : Int) < m by omega)
    rw [Int.neg_tmod] at this
    omega
  obtain ⟨r, hr⟩ : ∃ r, n.tmod (m : Int) = r := ⟨_, rfl⟩
  rw [hr] at h1 h2
  go_enter Tryz.func22, Tryz.ntmps22
  by_cases hneg : r < 0
  · go_wp2
    go_ret
    obtain ⟨k, hk⟩ := Int.eq_ofNat_of_zero_le (show 0 ≤ r + (m : Int) by omega)
    exact ⟨k, by omega, by rw [hk]; rfl, Below.refl _ _⟩
  · go_wp2
    go_ret
    obtain ⟨k, hk⟩ := Int.eq_ofNat_of_zero_le (show 0 ≤ r by omega)
    exact ⟨k, by omega, by rw [hk]; rfl, Below.refl _ _⟩


def pickN (n : Int) (m : Nat) : Nat := if n.tmod (m : Int) < 0 then (n.tmod (m : Int) + m).toNat else (n.tmod (m : Int)).toNat
theorem pickN_lt (n : Int) (m : Nat) (hm : 0 < m) : pickN n m < m := by
  have h1 : n.tmod (m : Int) < m := Int.tmod_lt_of_pos n (by omega)
  unfold pickN
  split <;> omega

set_option maxHeartbeats 1000000 in
theorem pick_fn (n : Int) (hn : -9223372036854775808 ≤ n ∧ n ≤ 9223372036854775807) (m : Nat) (hm : 0 < m) (hm2 : m < 9223372036854775807) (w : World) :
    Calls Tryz.prog 22 #[.int .i64 n, .int .i64 m] w fun e w' => e = .returned (.int .i64 (pickN n m : Nat)) ∧ w' = w := by
  have h1 : n.tmod (m : Int) < m := Int.tmod_lt_of_pos n (by omega)
  have h2 : -(m : Int) < n.tmod (m : Int) := by
    have := Int.tmod_lt_of_pos (-n) (show (0 : Int) < m by omega)
    rw [Int.neg_tmod] at this
    omega
  unfold pickN
  obtain ⟨r, hr⟩ : ∃ r, n.tmod (m : Int) = r := ⟨_, rfl⟩
  rw [hr] at h1 h2 ⊢
  by_cases hneg : r < 0
  · have hk := Int.toNat_of_nonneg (show 0 ≤ r + (m : Int) by omega)
    rw [if_pos hneg]
    generalize (r + (m : Int)).toNat = k at *
    have HK := Lib.hid hk
    clear hk
    go_enter Tryz.func22, Tryz.ntmps22
    go_wp2
    go_ret
    exact ⟨by rw [HK.out]; rfl, rfl⟩
  · have hk := Int.toNat_of_nonneg (show 0 ≤ r by omega)
    rw [if_neg hneg]
    generalize r.toNat = k at *
    have HK := Lib.hid hk
    clear hk
    go_enter Tryz.func22, Tryz.ntmps22
    go_wp2
    go_ret
    exact ⟨by rw [HK.out]; rfl, rfl⟩
end Go.Proofs.YtmifjfohanegiaaGreatDoor
