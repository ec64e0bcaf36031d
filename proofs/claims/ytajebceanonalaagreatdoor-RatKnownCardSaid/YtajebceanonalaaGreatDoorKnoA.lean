/-
  RatKnown: frac, knownNear.
-/
import Derived.Test.YtajebceanonalaaGreatDoorRatS
import Derived.Test.YtajebceanonalaaGreatDoorNewP
import Derived.Test.YtajebceanonalaaGreatDoorRatK
import Derived.Test.YtajebceanonalaaGreatDoorPlain
namespace Go.Proofs.YtajebceanonalaaGreatDoor
set_option linter.unusedVariables false
open Go.RowKit

def enR (x : Int × Int) : List Value := [.int .i64 x.1, .int .i64 x.2]
def enZ (n : Int) : List Value := [.int .i64 n]
theorem SlP.at {w : World} {a : Option Addr} {cap : Nat} {l : List (Int × Int)} (h : SlOf w enR 2 a cap l) {k : Nat} (hk : k < l.length) :
    ∃ b o, a = some ⟨b, o, none⟩ ∧ b < w.heap.size ∧ w.cell? ⟨b, o + k * 2, none⟩ = some (.int .i64 l[k].1) ∧ w.cell? ⟨b, o + k * 2 + 1, none⟩ = some (.int .i64 l[k].2) := by
  obtain ⟨b, o, rfl, hb, hc⟩ := SlOf.cells h (fun _ => rfl) (by decide) hk
  exact ⟨b, o, rfl, hb, hc 0 (by decide), by rw [Nat.add_assoc]; exact hc 1 (by decide)⟩
theorem SlZ.at {w : World} {a : Option Addr} {cap : Nat} {l : List Int} (h : SlOf w enZ 1 a cap l) {k : Nat} (hk : k < l.length) :
    ∃ b o, a = some ⟨b, o, none⟩ ∧ b < w.heap.size ∧ w.cell? ⟨b, o + k, none⟩ = some (.int .i64 l[k]) := SlOf.cell1 h (fun n => Value.int .i64 n) (fun _ => rfl) hk
theorem kfrac_any (n d : Int) (w : World) :
    Calls Tryz.prog 38 #[.int .i64 n, .int .i64 d] w fun e w' => e = .returned (.agg #[.int .i64 n, .int .i64 d]) ∧ Below w.heap.size w w' := by
  go_enter Tryz.func38, Tryz.ntmps38
  go_wp2_with fail
  exact bodyPost_ret (v := .agg #[.int .i64 n, .int .i64 d]) (by simp [results, Tryz.results38, go_sem]) rfl ⟨rfl, (Below.refl _ _).alloc (Nat.le_refl _) _⟩
def in64B (n : Int) : Bool := decide (-9223372036854775808 ≤ n) && decide (n ≤ 9223372036854775807)
theorem in64B_iff {n : Int} (h : in64B n = true) : In64 n := by
  unfold in64B at h
  rw [Bool.and_eq_true, decide_eq_true_eq, decide_eq_true_eq] at h
  exact h

def asksL : List (Int × Int) := [(5, 2), (-5, 2), (7, 3), (1, 2), (-1, 2), (9223372036854775807, 2), (-9223372036854775808, 1), (9223372036854775807, 1)]
def wantL : List Int := [3, -3, 2, 1, -1, 4611686018427387904, -9223372036854775808, 9223372036854775807]
def askK (k : Nat) : Int × Int := asksL.getD k (0, 1)
def wantK (k : Nat) : Int := wantL.getD k 0
theorem asks_all : (List.range 8).all (fun k => in64B (askK k).1 && in64B (askK k).2 && rightB (askK k).1 (askK k).2 && (roundI (askK k).1 (askK k).2 == wantK k)) = true := by decide +kernel
theorem asks_ok {k : Nat} (h : k < 8) : In64 (askK k).1 ∧ In64 (askK k).2 ∧ rightB (askK k).1 (askK k).2 = true ∧ roundI (askK k).1 (askK k).2 = wantK k := by
  have := List.all_eq_true.1 asks_all k (List.mem_range.2 h)
  simp only [Bool.and_eq_true, beq_iff_eq] at this
  obtain ⟨⟨⟨h1, h2⟩, h3⟩, h4⟩ := this
  exact ⟨in64B_iff h1, in64B_iff h2, h3, h4⟩

theorem Blk.put2 {w : World} {k : Nat} {x y : Value} (h : Blk w k #[x, y]) (a b : Value) : Blk ((w.setCell ⟨k, 0, none⟩ a).setCell ⟨k, 1, none⟩ b) k #[a, b] := by
  have hs : ∀ {w : World} {cs : Array Value} (h : Blk w k cs) (j : Nat) (v : Value), Blk (w.setCell ⟨k, j, none⟩ v) k (cs.setIfInBounds j v) := by
    intro w cs h j v
    obtain ⟨T, h⟩ := h
    exact ⟨T, by simp [World.setCell, Array.getElem?_modify, h]⟩
  exact hs (hs h 0 a) 1 b
theorem floatA {v0 w' : World} {cs : Array Value} {T : TypeId} (hb' : Below v0.heap.size v0.drew w') : Blk (w'.alloc (.cells cs T)) w'.heap.size cs ∧ Below v0.heap.size v0 (w'.alloc (.cells cs T)) :=
  ⟨Blk.new _ _ _, ((Below.refl v0.heap.size v0).drew.trans hb').alloc hb'.size _⟩
theorem floatB {v0 w' : World} {x y a b : Value} {T : TypeId} (hb' : Below (v0.alloc (.cells #[x, y] T)).heap.size (v0.alloc (.cells #[x, y] T)).drew w') :
    Blk ((w'.setCell ⟨v0.heap.size, 0, none⟩ a).setCell ⟨v0.heap.size, 1, none⟩ b) v0.heap.size #[a, b] ∧ Below v0.heap.size v0 ((w'.setCell ⟨v0.heap.size, 0, none⟩ a).setCell ⟨v0.heap.size, 1, none⟩ b) := by
  have h0 : Below v0.heap.size v0 (v0.alloc (.cells #[x, y] T)) := (Below.refl _ _).alloc (Nat.le_refl _) _
  have h1 : Blk (v0.alloc (.cells #[x, y] T)).drew v0.heap.size #[x, y] := Blk.new v0 #[x, y] T
  exact ⟨Blk.put2 (Blk.keep h1 hb' (Nat.le_refl _)) _ _, ((h0.drew.trans (hb'.mono h0.size)).setCell (p := ⟨v0.heap.size, 0, none⟩) (Nat.le_refl _) _).setCell (p := ⟨v0.heap.size, 1, none⟩) (Nat.le_refl _) _⟩
theorem ret_turn {P : Program} {f : FuncId} {args : Array Value} {w : World} {v v' : Value} (h : Calls P f args w fun e w' => e = .returned v ∧ Below w.heap.size w w') (e : v = v') :
    Calls P f args w fun e w' => e = .returned v' ∧ Below w.heap.size w w' := by rw [← e]; exact h

theorem knew0 (w : World) : Calls Tryz.prog 40 #[.int .i64 6, .int .i64 (-4)] w fun e w' => e = .returned (.tuple #[.agg #[.int .i64 (-3), .int .i64 2], .nilIface]) ∧ Below w.heap.size w w' :=
  ret_turn (new_any (6) (-4) ⟨by decide, by decide⟩ ⟨by decide, by decide⟩ w) (by kernel_rfl)
theorem knew1 (w : World) : Calls Tryz.prog 40 #[.int .i64 0, .int .i64 (-7)] w fun e w' => e = .returned (.tuple #[.agg #[.int .i64 0, .int .i64 1], .nilIface]) ∧ Below w.heap.size w w' :=
  ret_turn (new_any (0) (-7) ⟨by decide, by decide⟩ ⟨by decide, by decide⟩ w) (by kernel_rfl)
theorem knew2 (w : World) : Calls Tryz.prog 40 #[.int .i64 1, .int .i64 0] w fun e w' => e = .returned (.tuple #[.agg #[.int .i64 0, .int .i64 0], errV 10]) ∧ Below w.heap.size w w' :=
  ret_turn (new_any (1) (0) ⟨by decide, by decide⟩ ⟨by decide, by decide⟩ w) (by kernel_rfl)
theorem knew3 (w : World) : Calls Tryz.prog 40 #[.int .i64 1, .int .i64 (-9223372036854775808)] w fun e w' => e = .returned (.tuple #[.agg #[.int .i64 0, .int .i64 0], errV 9]) ∧ Below w.heap.size w w' :=
  ret_turn (new_any (1) (-9223372036854775808) ⟨by decide, by decide⟩ ⟨by decide, by decide⟩ w) (by kernel_rfl)
theorem kdiv0 (w : World) : Calls Tryz.prog 46 #[.agg #[.int .i64 1, .int .i64 2], .agg #[.int .i64 0, .int .i64 1]] w fun e w' => e = .returned (.tuple #[.agg #[.int .i64 0, .int .i64 0], errV 10]) ∧ Below w.heap.size w w' :=
  ret_turn (div_any 1 2 0 1 ⟨by decide, by decide⟩ ⟨by decide, by decide⟩ ⟨by decide, by decide⟩ ⟨by decide, by decide⟩ w) (by kernel_rfl)
theorem kdiv1 (w : World) : Calls Tryz.prog 46 #[.agg #[.int .i64 2, .int .i64 4], .agg #[.int .i64 0, .int .i64 1]] w fun e w' => e = .returned (.tuple #[.agg #[.int .i64 0, .int .i64 0], errV 1]) ∧ Below w.heap.size w w' :=
  ret_turn (div_any 2 4 0 1 ⟨by decide, by decide⟩ ⟨by decide, by decide⟩ ⟨by decide, by decide⟩ ⟨by decide, by decide⟩ w) (by kernel_rfl)
theorem kplain (m : Int) (h1 : 1 ≤ m) (h2 : m ≤ 26) (w : World) (hg : LaidT w) : Calls Tryz.prog 30 #[errV m, .int .i64 m] w fun e w' => e = .returned (.bool true) ∧ Below w.heap.size w w' :=
  ret_turn (plain_errno m m h1 h2 w hg) (by simp)

set_option maxRecDepth 100000 in
set_option maxHeartbeats 8000000 in
theorem knownNear_any (w : World) (hg : LaidT w) :
    Calls Tryz.prog 15 #[] w fun e w' => e = .returned (.bool true) ∧ Below w.heap.size w w' := by
  have cf := kfrac_any
  have HG := Lib.hid hg
  have HB := Lib.hid (Below.refl w.heap.size w)
  clear hg
  obtain ⟨w0, hw0⟩ : ∃ x, x = w := ⟨_, rfl⟩
  subst hw0
  go_enter Tryz.func15, Tryz.ntmps15
  go_wp2_with fail
  with_reducible refine (cf _ _ _).mono ?_
  rintro e w1 ⟨rfl, hb⟩
  replace HB := Lib.hid (bstep HB.out hb (Nat.le_refl _))
  replace HG := Lib.hid (LaidT.keep HG.out hb)
  clear hb
  go_wp2_with fail
  with_reducible refine (cf _ _ _).mono ?_
  rintro e w2 ⟨rfl, hb⟩
  replace HB := Lib.hid (bstep HB.out hb (Nat.le_refl _))
  replace HG := Lib.hid (LaidT.keep HG.out hb)
  clear hb
  go_wp2_with fail
  with_reducible refine (cf _ _ _).mono ?_
  rintro e w3 ⟨rfl, hb⟩
  replace HB := Lib.hid (bstep HB.out hb (Nat.le_refl _))
  replace HG := Lib.hid (LaidT.keep HG.out hb)
  clear hb
  go_wp2_with fail
  with_reducible refine (cf _ _ _).mono ?_
  rintro e w4 ⟨rfl, hb⟩
  replace HB := Lib.hid (bstep HB.out hb (Nat.le_refl _))
  replace HG := Lib.hid (LaidT.keep HG.out hb)
  clear hb
  go_wp2_with fail
  with_reducible refine (cf _ _ _).mono ?_
  rintro e w5 ⟨rfl, hb⟩
  replace HB := Lib.hid (bstep HB.out hb (Nat.le_refl _))
  replace HG := Lib.hid (LaidT.keep HG.out hb)
  clear hb
  go_wp2_with fail
  with_reducible refine (cf _ _ _).mono ?_
  rintro e w6 ⟨rfl, hb⟩
  replace HB := Lib.hid (bstep HB.out hb (Nat.le_refl _))
  replace HG := Lib.hid (LaidT.keep HG.out hb)
  clear hb
  go_wp2_with fail
  with_reducible refine (cf _ _ _).mono ?_
  rintro e w7 ⟨rfl, hb⟩
  replace HB := Lib.hid (bstep HB.out hb (Nat.le_refl _))
  replace HG := Lib.hid (LaidT.keep HG.out hb)
  clear hb
  go_wp2_with fail
  with_reducible refine (cf _ _ _).mono ?_
  rintro e w8 ⟨rfl, hb⟩
  replace HB := Lib.hid (bstep HB.out hb (Nat.le_refl _))
  replace HG := Lib.hid (LaidT.keep HG.out hb)
  clear hb
  go_wp2_with fail
  have HSZ := Lib.hid (rfl : w8.heap.size = w8.heap.size)
  obtain ⟨hA, hb⟩ : SlOf (w8.alloc (.cells #[.int .i64 5, .int .i64 2, .int .i64 (-5), .int .i64 2, .int .i64 7, .int .i64 3, .int .i64 1, .int .i64 2, .int .i64 (-1), .int .i64 2, .int .i64 9223372036854775807, .int .i64 2, .int .i64 (-9223372036854775808), .int .i64 1, .int .i64 9223372036854775807, .int .i64 1] 23)) enR 2 (some ⟨w8.heap.size, 0, none⟩) 8 asksL ∧ Below w8.heap.size w8 (w8.alloc (.cells #[.int .i64 5, .int .i64 2, .int .i64 (-5), .int .i64 2, .int .i64 7, .int .i64 3, .int .i64 1, .int .i64 2, .int .i64 (-1), .int .i64 2, .int .i64 9223372036854775807, .int .i64 2, .int .i64 (-9223372036854775808), .int .i64 1, .int .i64 9223372036854775807, .int .i64 1] 23)) := ⟨by rw [← HSZ.out]; exact SlOf.lit w8 enR 2 (fun _ => rfl) asksL _ _ 8 rfl rfl (by decide), (Below.refl _ _).alloc (Nat.le_refl _) _⟩
  replace HSZ := Lib.hid (show (w8.alloc (.cells #[.int .i64 5, .int .i64 2, .int .i64 (-5), .int .i64 2, .int .i64 7, .int .i64 3, .int .i64 1, .int .i64 2, .int .i64 (-1), .int .i64 2, .int .i64 9223372036854775807, .int .i64 2, .int .i64 (-9223372036854775808), .int .i64 1, .int .i64 9223372036854775807, .int .i64 1] 23)).heap.size = w8.heap.size + 1 by rw [← HSZ.out]; simp)
  replace HB := Lib.hid (bstep HB.out hb (Nat.le_refl _))
  replace HG := Lib.hid (LaidT.keep HG.out hb)
  have HA := Lib.hid hA
  clear hb hA
  generalize w8.alloc (.cells #[.int .i64 5, .int .i64 2, .int .i64 (-5), .int .i64 2, .int .i64 7, .int .i64 3, .int .i64 1, .int .i64 2, .int .i64 (-1), .int .i64 2, .int .i64 9223372036854775807, .int .i64 2, .int .i64 (-9223372036854775808), .int .i64 1, .int .i64 9223372036854775807, .int .i64 1] 23) = w9 at *
  obtain ⟨hA, hb⟩ : SlOf (w9.alloc (.cells #[.int .i64 3, .int .i64 (-3), .int .i64 2, .int .i64 1, .int .i64 (-1), .int .i64 4611686018427387904, .int .i64 (-9223372036854775808), .int .i64 9223372036854775807] 2)) enZ 1 (some ⟨w8.heap.size + 1, 0, none⟩) 8 wantL ∧ Below w9.heap.size w9 (w9.alloc (.cells #[.int .i64 3, .int .i64 (-3), .int .i64 2, .int .i64 1, .int .i64 (-1), .int .i64 4611686018427387904, .int .i64 (-9223372036854775808), .int .i64 9223372036854775807] 2)) := ⟨by rw [← HSZ.out]; exact SlOf.lit w9 enZ 1 (fun _ => rfl) wantL _ _ 8 rfl rfl (by decide), (Below.refl _ _).alloc (Nat.le_refl _) _⟩
  replace HSZ := Lib.hid (show (w9.alloc (.cells #[.int .i64 3, .int .i64 (-3), .int .i64 2, .int .i64 1, .int .i64 (-1), .int .i64 4611686018427387904, .int .i64 (-9223372036854775808), .int .i64 9223372036854775807] 2)).heap.size = w8.heap.size + 1 + 1 by rw [← HSZ.out]; simp)
  replace HB := Lib.hid (bstep HB.out hb (Nat.le_refl _))
  replace HG := Lib.hid (LaidT.keep HG.out hb)
  replace HA := Lib.hid (SlOf.keep HA.out hb (Nat.le_refl _))
  have HW := Lib.hid hA
  clear hb hA
  generalize w9.alloc (.cells #[.int .i64 3, .int .i64 (-3), .int .i64 2, .int .i64 1, .int .i64 (-1), .int .i64 4611686018427387904, .int .i64 (-9223372036854775808), .int .i64 9223372036854775807] 2) = w10 at *
  clear cf
  go_loopw [3] (fun x wr => ∃ k : Nat, k ≤ 8 ∧ x = .int .i64 (k : Nat) ∧ Below w10.heap.size w10 wr) (fun x _ => 8 - (intOf x).toNat)
  case atStart => exact ⟨0, by omega, rfl, Below.refl _ _⟩
  case round =>
    obtain ⟨k, hk, rfl, hbk⟩ := hrel
    have HK := Lib.hid hbk
    by_cases hltI : (k : Int) < 8
    · have hlt : k < 8 := by omega
      obtain ⟨bl, ol, e, hba, hc0, hc1⟩ := SlP.at (HA.out.keep hbk (Nat.le_refl _)) (k := k) (by simpa [asksL] using hlt)
      cases e
      obtain ⟨bl, ol, e, hbb, hd0⟩ := SlZ.at (HW.out.keep hbk (Nat.le_refl _)) (k := k) (by simpa [wantL] using hlt)
      cases e
      rw [Nat.zero_add] at hc0 hc1 hd0
      rw [show asksL[k]'(by simpa [asksL] using hlt) = askK k by simp [askK, List.getD, asksL, hlt]] at hc0 hc1
      rw [show wantL[k]'(by simpa [wantL] using hlt) = wantK k by simp [wantK, List.getD, wantL, hlt]] at hd0
      obtain ⟨x1, x2, x3, x4⟩ := asks_ok hlt
      rw [← x4] at hd0
      have cr := round_any _ _ x1 x2
      rw [x3, if_pos rfl] at cr
      clear x1 x2 x3 x4 hbk
      generalize (askK k).1 = x at *
      generalize (askK k).2 = y at *
      generalize roundI x y = v at *
      go_wp2_with fail
      with_reducible refine (cr _).mono ?_
      rintro e wt ⟨rfl, hb⟩
      have hd1 := cell_keep' hd0 hb
      have HK2 := Lib.hid (bstep HK.out hb (Nat.le_refl _))
      clear hb cr hc0 hc1 hd0
      go_wp2_with fail
      go_roundw
      case rel => exact ⟨k + 1, by omega, by first | rfl | go_num, HK2.out⟩
      case measure => (simp [intOf] <;> omega)
    · have hb := HK.out
      replace HG := Lib.hid (LaidT.keep HG.out hb)
      replace HB := Lib.hid (bstep HB.out hb (Nat.le_refl _))
      clear hbk HK HA HW hb
      have hk8 : k = 8 := by omega
      subst hk8
      obtain ⟨w11, hw⟩ : ∃ x, x = wr := ⟨_, rfl⟩
      subst hw
      go_wp2_with fail
      with_reducible refine (knew0 _).mono ?_
      rintro e w12 ⟨rfl, hb⟩
      replace HB := Lib.hid (bstep HB.out hb (Nat.le_refl _))
      replace HG := Lib.hid (LaidT.keep HG.out hb)
      clear hb
      obtain ⟨tn, hsz, hb⟩ := box1 w12 #[.int .i64 (-3), .int .i64 2] 23
      clear hsz
      replace HB := Lib.hid (bstep HB.out hb (Nat.le_refl _))
      replace HG := Lib.hid (LaidT.keep HG.out hb)
      have T6 := Lib.hid tn
      clear hb tn
      go_wp2_with fail
      generalize w12.alloc (.cells #[.int .i64 (-3), .int .i64 2] 23) = v13 at *
      with_reducible refine (knew1 _).mono ?_
      rintro e w13 ⟨rfl, hb⟩
      replace HB := Lib.hid (bstep HB.out hb (Nat.le_refl _))
      replace HG := Lib.hid (LaidT.keep HG.out hb)
      replace T6 := Lib.hid ((T6.out).keep hb (Nat.le_refl _))
      clear hb
      obtain ⟨tn, hsz, hb⟩ := box1 w13 #[.int .i64 0, .int .i64 1] 23
      clear hsz
      replace HB := Lib.hid (bstep HB.out hb (Nat.le_refl _))
      replace HG := Lib.hid (LaidT.keep HG.out hb)
      replace T6 := Lib.hid ((T6.out).keep hb (Nat.le_refl _))
      have T8 := Lib.hid tn
      clear hb tn
      go_wp2_with fail
      generalize w13.alloc (.cells #[.int .i64 0, .int .i64 1] 23) = v14 at *
      with_reducible refine (knew2 _).mono ?_
      rintro e w14 ⟨rfl, hb⟩
      replace HB := Lib.hid (bstep HB.out hb (Nat.le_refl _))
      replace HG := Lib.hid (LaidT.keep HG.out hb)
      replace T6 := Lib.hid ((T6.out).keep hb (Nat.le_refl _))
      replace T8 := Lib.hid ((T8.out).keep hb (Nat.le_refl _))
      clear hb
      obtain ⟨tn, hsz, hb⟩ := box1 w14 #[.int .i64 0, .int .i64 0] 23
      clear hsz
      replace HB := Lib.hid (bstep HB.out hb (Nat.le_refl _))
      replace HG := Lib.hid (LaidT.keep HG.out hb)
      replace T6 := Lib.hid ((T6.out).keep hb (Nat.le_refl _))
      replace T8 := Lib.hid ((T8.out).keep hb (Nat.le_refl _))
      have T10 := Lib.hid tn
      clear hb tn
      go_wp2_with fail
      generalize w14.alloc (.cells #[.int .i64 0, .int .i64 0] 23) = v15 at *
      with_reducible refine (knew3 _).mono ?_
      rintro e w15 ⟨rfl, hb⟩
      replace HB := Lib.hid (bstep HB.out hb (Nat.le_refl _))
      replace HG := Lib.hid (LaidT.keep HG.out hb)
      replace T6 := Lib.hid ((T6.out).keep hb (Nat.le_refl _))
      replace T8 := Lib.hid ((T8.out).keep hb (Nat.le_refl _))
      replace T10 := Lib.hid ((T10.out).keep hb (Nat.le_refl _))
      clear hb
      obtain ⟨tn, hsz, hb⟩ := box1 w15 #[.int .i64 0, .int .i64 0] 23
      clear hsz
      replace HB := Lib.hid (bstep HB.out hb (Nat.le_refl _))
      replace HG := Lib.hid (LaidT.keep HG.out hb)
      replace T6 := Lib.hid ((T6.out).keep hb (Nat.le_refl _))
      replace T8 := Lib.hid ((T8.out).keep hb (Nat.le_refl _))
      have T12 := Lib.hid tn
      clear hb tn
      go_wp2_with fail
      generalize w15.alloc (.cells #[.int .i64 0, .int .i64 0] 23) = v16 at *
      with_reducible refine (kfrac_any _ _ _).mono ?_
      rintro e w16 ⟨rfl, hb⟩
      replace HB := Lib.hid (bstep HB.out hb (Nat.le_refl _))
      replace HG := Lib.hid (LaidT.keep HG.out hb)
      replace T6 := Lib.hid ((T6.out).keep hb (Nat.le_refl _))
      replace T8 := Lib.hid ((T8.out).keep hb (Nat.le_refl _))
      replace T12 := Lib.hid ((T12.out).keep hb (Nat.le_refl _))
      clear hb
      go_wp2_with fail
      with_reducible refine (kfrac_any _ _ _).mono ?_
      rintro e w17 ⟨rfl, hb⟩
      replace HB := Lib.hid (bstep HB.out hb (Nat.le_refl _))
      replace HG := Lib.hid (LaidT.keep HG.out hb)
      replace T6 := Lib.hid ((T6.out).keep hb (Nat.le_refl _))
      replace T8 := Lib.hid ((T8.out).keep hb (Nat.le_refl _))
      clear hb
      go_wp2_with fail
      with_reducible refine (kdiv0 _).mono ?_
      rintro e w18 ⟨rfl, hb⟩
      replace HB := Lib.hid (bstep HB.out hb (Nat.le_refl _))
      replace HG := Lib.hid (LaidT.keep HG.out hb)
      replace T6 := Lib.hid ((T6.out).keep hb (Nat.le_refl _))
      replace T8 := Lib.hid ((T8.out).keep hb (Nat.le_refl _))
      clear hb
      obtain ⟨tn, hsz, hb⟩ := box1 w18 #[.int .i64 0, .int .i64 0] 23
      clear hsz
      replace HB := Lib.hid (bstep HB.out hb (Nat.le_refl _))
      replace HG := Lib.hid (LaidT.keep HG.out hb)
      replace T6 := Lib.hid ((T6.out).keep hb (Nat.le_refl _))
      replace T8 := Lib.hid ((T8.out).keep hb (Nat.le_refl _))
      have T14 := Lib.hid tn
      clear hb tn
      go_wp2_with fail
      generalize w18.alloc (.cells #[.int .i64 0, .int .i64 0] 23) = v19 at *
      with_reducible refine (kfrac_any _ _ _).mono ?_
      rintro e w19 ⟨rfl, hb⟩
      replace HB := Lib.hid (bstep HB.out hb (Nat.le_refl _))
      replace HG := Lib.hid (LaidT.keep HG.out hb)
      replace T6 := Lib.hid ((T6.out).keep hb (Nat.le_refl _))
      replace T8 := Lib.hid ((T8.out).keep hb (Nat.le_refl _))
      replace T14 := Lib.hid ((T14.out).keep hb (Nat.le_refl _))
      clear hb
      go_wp2_with fail
      with_reducible refine (kfrac_any _ _ _).mono ?_
      rintro e w20 ⟨rfl, hb⟩
      replace HB := Lib.hid (bstep HB.out hb (Nat.le_refl _))
      replace HG := Lib.hid (LaidT.keep HG.out hb)
      replace T6 := Lib.hid ((T6.out).keep hb (Nat.le_refl _))
      replace T8 := Lib.hid ((T8.out).keep hb (Nat.le_refl _))
      clear hb
      go_wp2_with fail
      with_reducible refine (kdiv1 _).mono ?_
      rintro e w21 ⟨rfl, hb⟩
      replace HB := Lib.hid (bstep HB.out hb (Nat.le_refl _))
      replace HG := Lib.hid (LaidT.keep HG.out hb)
      replace T6 := Lib.hid ((T6.out).keep hb (Nat.le_refl _))
      replace T8 := Lib.hid ((T8.out).keep hb (Nat.le_refl _))
      clear hb
      obtain ⟨tn, hsz, hb⟩ := box1 w21 #[.int .i64 0, .int .i64 0] 23
      clear hsz
      replace HB := Lib.hid (bstep HB.out hb (Nat.le_refl _))
      replace HG := Lib.hid (LaidT.keep HG.out hb)
      replace T6 := Lib.hid ((T6.out).keep hb (Nat.le_refl _))
      replace T8 := Lib.hid ((T8.out).keep hb (Nat.le_refl _))
      have T16 := Lib.hid tn
      clear hb tn
      go_wp2_with fail
      generalize w21.alloc (.cells #[.int .i64 0, .int .i64 0] 23) = v22 at *
      obtain ⟨a0, a1, a2, a3⟩ := T6.out.two
      obtain ⟨b0, b1, b2, b3⟩ := T8.out.two
      have l0 := fun x : Later v22 => Later.cell a0 x
      have l1 := fun x : Later v22 => Later.cell a1 x
      have l2 := fun x : Later v22 => Later.cell b0 x
      have l3 := fun x : Later v22 => Later.cell b1 x
      have lf := fun (n d : Int) (x : Later v22) => kfrac_any n d x.w
      have lp1 := fun x : Later v22 => kplain 1 (by decide) (by decide) x.w (LaidT.keep HG.out x.below)
      have lp9 := fun x : Later v22 => kplain 9 (by decide) (by decide) x.w (LaidT.keep HG.out x.below)
      have lp10 := fun x : Later v22 => kplain 10 (by decide) (by decide) x.w (LaidT.keep HG.out x.below)
      unfold errV at lp1 lp9 lp10
      simp only [errV]
      refine wp_region_later0 (by kernel_rfl) (by kernel_rfl) ?_
      repeat (go_big_quiet_step ((first | (go_at_call 38; with_reducible exact Later.made (lf _ _ _)) | (go_at_call 30; first | with_reducible exact Later.made (lp1 _) | with_reducible exact Later.made (lp9 _) | with_reducible exact Later.made (lp10 _)))))
      refine wpQuiet_nil ?_
      rintro _ ⟨x, rfl⟩
      have HB5 := Lib.hid (bstep HB.out x.below (Nat.le_refl _))
      generalize x.w = w99 at *
      go_wp2_with fail
      go_ret
      exact ⟨rfl, HB5.out⟩
end Go.Proofs.YtajebceanonalaaGreatDoor
