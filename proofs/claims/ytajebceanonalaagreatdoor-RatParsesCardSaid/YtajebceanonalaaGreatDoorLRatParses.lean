/-
  PROVED: busbar/busbarlaw02.RatParses: for every input the law returns true and leaves its arguments as they were. No condition.
-/
import Derived.Test.YtajebceanonalaaGreatDoorAsErr
import Derived.Test.YtajebceanonalaaGreatDoorRatD
import Derived.Test.YtajebceanonalaaGreatDoorParX
import Derived.Test.YtajebceanonalaaGreatDoorParF
import Derived.Test.YtajebceanonalaaGreatDoorShelf
import Derived.Test.YtajebceanonalaaGreatDoorBaseB
import Derived.Test.YtajebceanonalaaGreatDoorDecM
import Derived.Lib.AppendIntMem
import Derived.Lib.ItoaMem
import Derived.Test.YtajebceanonalaaGreatDoorTxtB
import Derived.Test.YtajebceanonalaaGreatDoorRatE
import Derived.Test.YtajebceanonalaaGreatDoorRatC
import Derived.Test.YtajebceanonalaaGreatDoorCalm
import Derived.BigQuiet
import Derived.Test.YtajebceanonalaaGreatDoorCards
import Derived.Test.YtajebceanonalaaGreatDoorTie
import Derived.Lay
import Derived.Stop.LaidErr
import Derived.LaidLaws
import Derived.LaidHandle
import Derived.LaidMore
import Derived.MakeChecks
import Derived.Stop.Joined
import Derived.RowKit
import Derived.RowKitTokens
import Derived.ChangeSame
import Derived.ChangeVars
import Derived.JoinedOf
import Derived.Lib.LaidTab
import Derived.Lib.LaidU8
import Derived.SevenTiedAt

namespace Go.Proofs.YtajebceanonalaaGreatDoor
set_option linter.unusedVariables false
open Go.RowKit

/-- errors.errorType, as it is laid -/
def LaidT (w : World) : Prop := w.cell? ⟨0, 0, none⟩ = some (.iface 171 (.agg #[.pointer (some ⟨11, 25, none⟩)]))
theorem LaidT.keep {w w' : World} (h : LaidT w) (hb : Below w.heap.size w w') : LaidT w' := cell_keep' h hb

set_option maxRecDepth 100000 in
set_option maxHeartbeats 1000000 in
theorem plain_nil (n : Int) (w : World) : Calls Tryz.prog 30 #[.nilIface, .int .i64 n] w fun e w' => e = .returned (.bool (decide (0 = n))) ∧ Below w.heap.size w w' := by
  have c1 := num_nil
  by_cases h : 0 = n
  · subst h
    go_enter Tryz.func30, Tryz.ntmps30
    go_wp2_with fail
    with_reducible refine (c1 _).mono ?_
    rintro e w1 ⟨rfl, rfl⟩
    go_wp2_with fail
    go_ret
    exact ⟨rfl, (Below.refl _ _).alloc (Nat.le_refl _) _⟩
  · have hz : ((0 : Int) == n) = false := by rw [beq_eq_false_iff_ne]; exact h
    rw [decide_eq_false h]
    go_enter Tryz.func30, Tryz.ntmps30
    go_wp2_with fail
    with_reducible refine (c1 _).mono ?_
    rintro e w1 ⟨rfl, rfl⟩
    go_wp2_with fail
    go_ret
    exact ⟨rfl, (Below.refl _ _).alloc (Nat.le_refl _) _⟩

set_option maxRecDepth 100000 in
set_option maxHeartbeats 1000000 in
theorem plain_errno (m n : Int) (h1 : 1 ≤ m) (h2 : m ≤ 26) (w : World) (hg : LaidT w) : Calls Tryz.prog 30 #[errV m, .int .i64 n] w fun e w' => e = .returned (.bool (decide (m = n))) ∧ Below w.heap.size w w' := by
  have c1 := num_errno m h1 h2
  have HG := Lib.hid hg
  clear hg
  unfold errV
  by_cases h : m = n
  · subst h
    go_enter Tryz.func30, Tryz.ntmps30
    go_wp2_with fail
    with_reducible refine (c1 _).mono ?_
    rintro e w1 ⟨rfl, rfl⟩
    go_wp2_with fail
    with_reducible refine (as_errno m _ _ ?_).mono ?_
    · exact HG.out.keep ((Below.refl _ _).alloc (Nat.le_refl _) _)
    rintro e w2 ⟨rfl, hb⟩
    have HB := Lib.hid (((Below.refl _ _).alloc (Nat.le_refl _) _).trans (hb.mono (by simp)))
    clear hb
    go_wp2_with fail
    go_ret
    exact ⟨by simp, HB.out⟩
  · have hz : (m == n) = false := by rw [beq_eq_false_iff_ne]; exact h
    rw [decide_eq_false h]
    go_enter Tryz.func30, Tryz.ntmps30
    go_wp2_with fail
    with_reducible refine (c1 _).mono ?_
    rintro e w1 ⟨rfl, rfl⟩
    go_wp2_with fail
    go_ret
    exact ⟨rfl, (Below.refl _ _).alloc (Nat.le_refl _) _⟩

/-- the law's is: of one fraction on both sides -/
theorem is_same_any (x y : Int) (e : Value) (n : Int) (p : Bool) (w : World) (cP : ∀ w', Below w.heap.size w w' → Calls Tryz.prog 30 #[e, .int .i64 n] w' fun e w'' => e = .returned (.bool p) ∧ Below w'.heap.size w' w'') :
    Calls Tryz.prog 8 #[.agg #[.int .i64 x, .int .i64 y], e, .agg #[.int .i64 x, .int .i64 y], .int .i64 n] w fun e w' => e = .returned (.bool p) ∧ Below w.heap.size w w' := by
  go_enter Tryz.func8, Tryz.ntmps8
  go_wp2_with fail
  with_reducible refine (cP _ ?_).mono ?_
  · first | exact Below.refl _ _ | exact (Below.refl _ _).alloc (Nat.le_refl _) _ | exact ((Below.refl _ _).alloc (Nat.le_refl _) _).alloc (by simp) _
  rintro e w1 ⟨rfl, hb⟩
  have HB := Lib.hid hb
  clear hb cP
  have HB2 := Lib.hid (((((Below.refl w.heap.size w).alloc (Nat.le_refl _) (.cells #[.int .i64 x, .int .i64 y] 23)).alloc (by simp) (.cells #[.int .i64 x, .int .i64 y] 23))))
  cases p
  · go_wp2_with fail
    exact bodyPost_ret (v := .bool false) (by simp [results, Tryz.results8, go_sem]) rfl ⟨rfl, by first | exact HB.out | exact HB2.out.trans (HB.out.mono HB2.out.size)⟩
  · go_wp2_with fail
    exact bodyPost_ret (v := .bool true) (by simp [results, Tryz.results8, go_sem]) rfl ⟨rfl, by first | exact HB.out | exact HB2.out.trans (HB.out.mono HB2.out.size)⟩
end Go.Proofs.YtajebceanonalaaGreatDoor

namespace Go.Proofs.YtajebceanonalaaGreatDoor
set_option linter.unusedVariables false
open Go.RowKit

theorem parse_shape (s : List UInt8) : ∃ (x y k : Int) (e : Value), parseV s = .tuple #[.agg #[.int .i64 x, .int .i64 y], e] ∧ parseW s = .tuple #[.agg #[.int .i64 x, .int .i64 y], .int .i64 k] ∧
    ∀ w, LaidT w → Calls Tryz.prog 30 #[e, .int .i64 k] w fun e w' => e = .returned (.bool true) ∧ Below w.heap.size w w' := by
  unfold parseV parseW
  by_cases h : 96 < s.length
  · rw [if_pos h, if_pos h]
    exact ⟨0, 0, 3, errV 3, rfl, rfl, fun w hg => plain_errno 3 3 (by decide) (by decide) w hg⟩
  rw [if_neg h, if_neg h]
  unfold parseR parseQ
  cases readL s with
  | none => exact ⟨0, 0, 8, errV 8, rfl, rfl, fun w hg => plain_errno 8 8 (by decide) (by decide) w hg⟩
  | some x =>
    obtain ⟨neg, d, p⟩ := x
    simp only
    cases parseF neg (valL d) p with
    | none => exact ⟨0, 0, 9, errV 9, rfl, rfl, fun w hg => plain_errno 9 9 (by decide) (by decide) w hg⟩
    | some q => exact ⟨q.1, q.2, 0, .nilIface, rfl, rfl, fun w hg => plain_nil 0 w⟩

set_option maxRecDepth 100000 in
set_option maxHeartbeats 2000000 in
theorem ratparses_any (s : List UInt8) (hs : s.length ≤ 9223372036854775807) (w : World) (hg : LaidT w) :
    Calls Tryz.prog 3 #[.string ⟨s.toArray⟩] w fun e w' => e = .returned (.bool true) ∧ Below w.heap.size w w' := by
  have cn := parse_any s hs
  have cr := refparse_any s hs
  obtain ⟨x, y, k, e, h1, h2, cp⟩ := parse_shape s
  rw [h1] at cn
  rw [h2] at cr
  clear h1 h2
  have HG := Lib.hid hg
  clear hg
  go_enter Tryz.func3, Tryz.ntmps3
  go_wp2_with fail
  with_reducible refine (cn _).mono ?_
  rintro e' w1 ⟨rfl, hb1⟩
  have HG1 := Lib.hid (HG.out.keep hb1)
  have HB1 := Lib.hid hb1
  clear hb1 cn HG
  go_wp2_with fail
  with_reducible refine (cr _).mono ?_
  rintro e' w2 ⟨rfl, hb2⟩
  obtain ⟨ta, hsz, hbw⟩ := box1 w1 #[.int .i64 x, .int .i64 y] 23
  have TA := Lib.hid (ta.keep hb2 (Nat.le_refl _))
  have HG2 := Lib.hid ((HG1.out.keep hbw).keep hb2)
  have HB2 := Lib.hid ((HB1.out.trans (hbw.mono HB1.out.size)).trans (hb2.mono (Nat.le_trans HB1.out.size hbw.size)))
  clear hb2 cr HG1 HB1 hsz hbw ta
  obtain ⟨tb, hsz, hbw⟩ := box1 w2 #[.int .i64 x, .int .i64 y] 23
  have TB := Lib.hid tb
  obtain ⟨a0, a1, a2, a3⟩ := (TA.out.keep hbw (Nat.le_refl _)).two
  obtain ⟨b0, b1, b2, b3⟩ := TB.out.two
  have HG3 := Lib.hid (HG2.out.keep hbw)
  have HB4 := Lib.hid (HB2.out.trans (hbw.mono HB2.out.size))
  clear hsz hbw tb
  have ci := fun w2 hg => is_same_any x y e k true w2 (fun w' hb => cp w' (LaidT.keep hg hb))
  go_wp2_with fail
  generalize w2.alloc (.cells #[.int .i64 x, .int .i64 y] 23) = W3 at *
  with_reducible refine (ci _ HG3.out).mono ?_
  rintro e' w4 ⟨rfl, hb4⟩
  have HB5 := Lib.hid (HB4.out.trans (hb4.mono HB4.out.size))
  clear hb4
  go_wp2_with fail
  go_ret
  exact ⟨rfl, HB5.out⟩

theorem ratparses_str (s : ByteArray) (hs : s.size ≤ 9223372036854775807) (w : World) (hg : LaidT w) :
    Calls Tryz.prog 3 #[.string s] w fun e w' => e = .returned (.bool true) ∧ Below w.heap.size w w' := by
  have h := ratparses_any s.data.toList (by rw [Array.length_toList]; exact hs) w hg
  have e : (⟨s.data.toList.toArray⟩ : ByteArray) = s := by cases s; simp
  rwa [e] at h
end Go.Proofs.YtajebceanonalaaGreatDoor

namespace Go.Proofs.YtajebceanonalaaGreatDoor
set_option linter.unusedVariables false
open Go.RowKit Go.Sort

def PowTab (w : World) : Prop := Lib.TabIs Tryz.prog w "internal/strconv.uint64pow10" .u64 Lib.pow10Tab
theorem wrapU64 (n : Nat) (h : n < 18446744073709551616) : IntKind.i64.wrap (n : Int) = n ∨ 9223372036854775808 ≤ n := by
  by_cases h2 : n < 9223372036854775808
  · left; unfold IntKind.wrap; simp [IntKind.bits, IntKind.signed]; omega
  · right; omega

theorem below_growN (w : World) (k : Nat) (os : Array Obj) : Below w.heap.size w (grow (w.drewN k) os) := by
  have h : Below w.heap.size w (w.drewN k) := (Below.refl w.heap.size w).trans ⟨rfl, rfl, rfl, Nat.le_refl _, fun _ _ => rfl⟩
  refine ⟨h.os, h.tape, h.output, ?_, fun j hj => ?_⟩
  · simp [grow]
  · rw [← h.block j hj]
    simp only [grow]
    rw [Array.getElem?_append_left (by simpa using hj)]

set_option maxRecDepth 100000 in
set_option maxHeartbeats 4000000 in
theorem ifmtUint_any (u : Nat) (hu : u < 18446744073709551616) (w : World) (htab : PowTab w) :
    Calls Tryz.prog 73 #[.int .u64 u, .int .i64 10] w fun e w' => e = .returned (.string ⟨(Lib.decDigits u).toArray⟩) ∧ Below w.heap.size w w' := by
  unfold PowTab at htab
  by_cases hs : (u : Int) < 100
  · have c := Tryz.internal_strconv_small u (by omega)
    go_enter Tryz.func73, Tryz.ntmps73
    go_wp2_with fail
    with_reducible refine (c _).mono ?_
    rintro e w' ⟨rfl, rfl⟩
    go_wp2_with fail
    go_ret
    exact ⟨rfl, Below.refl _ _⟩
  · have hnd20 : Lib.nDigits u ≤ 20 := by have := Lib.numDigits_eq u (by omega) hu; split at this <;> omega
    have hb3 : Lib.nDigits u ≤ 24 := by omega
    have cn := fun W htab => Tryz.internal_strconv_numDigits u (by omega) hu W htab
    have hH0 := Lib.holds_zero0 w 153 (Lib.nDigits u) hb3
    have hfmt := Tryz.internal_strconv_formatBase10 w.heap.size 0 24 u (Array.replicate (Lib.nDigits u) 0) (w.alloc (.cells Lib.zeros24 153)) hH0 (by rw [Array.size_replicate]; exact Lib.lt_pow_nDigits u) hu (by rw [Array.size_replicate]; omega)
    rw [Array.size_replicate] at hfmt
    have hal : Tryz.prog.arrayLen 153 = 24 := by kernel_rfl
    have hsl : ∀ W, (Instr.sliceAt 153 (.pointer (some ⟨w.heap.size, 0, none⟩)) none (some (.int .i64 (Lib.nDigits u : Int))) none).run Tryz.prog W = .ok (.slice (some ⟨w.heap.size, 0, none⟩) (Lib.nDigits u) 24) W := fun W => by
      rw [run_sliceAt_array_h W 153 ⟨w.heap.size, 0, none⟩ (by kernel_rfl) .i64 (Lib.nDigits u : Int) (by omega) (by rw [hal]; omega)]
      go_simp
    clear hal
    have HH0 := Lib.hid hH0
    clear hH0
    go_enter Tryz.func73, Tryz.ntmps73
    go_wp2_with fail
    refine (cn _ (Lib.tabIs_alloc htab _)).mono ?_
    rintro e w' ⟨rfl, rfl⟩
    go_wp2_with fail
    refine hfmt.mono ?_
    rintro e w' ⟨rfl, k, v', dk, rfl, hF⟩
    have hcv : (convert 91 9 (.slice (some ⟨w.heap.size, 0, none⟩) (Lib.nDigits u) 24)).run Tryz.prog ((putRow (fun (b : UInt8) => Value.int .u8 (b.toNat : Int)) (w.alloc (.cells Lib.zeros24 153)) w.heap.size 0 dk).drewN k) = .ok (.string ⟨(Lib.decDigits u).toArray⟩) ((putRow (fun (b : UInt8) => Value.int .u8 (b.toNat : Int)) (w.alloc (.cells Lib.zeros24 153)) w.heap.size 0 dk).drewN k) := by
      have h := run_convert_bytes_back (P := Tryz.prog) ((putRow (fun (b : UInt8) => Value.int .u8 (b.toNat : Int)) (w.alloc (.cells Lib.zeros24 153)) w.heap.size 0 dk).drewN k) 91 9 5 ⟨w.heap.size, 0, none⟩ 24 (Lib.decDigits u) Tryz.underlying91 Tryz.underlying5 Tryz.underlying9 (fun j hj => by
        rw [Lib.row_is_numeral hF j hj, Lib.add_plain, World.cell?_drewN]
        exact cell?_putRow (fun (b : UInt8) => Value.int .u8 (b.toNat : Int)) _ w.heap.size 0 _ dk HH0.out (by rw [hF.size, Array.size_replicate]) j (by rw [hF.size]; rw [Lib.decDigits_length] at hj; exact hj))
      rw [Lib.decDigits_length] at h
      exact h
    obtain ⟨os, eo⟩ := Lib.fin_at w (.cells Lib.zeros24 153) dk k 0
    have HBB := Lib.hid (show Below w.heap.size w ((putRow (fun (b : UInt8) => Value.int .u8 (b.toNat : Int)) (w.alloc (.cells Lib.zeros24 153)) w.heap.size 0 dk).drewN k) by rw [eo]; exact below_growN w k os)
    clear eo hfmt cn
    go_wp2_with fail
    go_ret
    exact ⟨rfl, HBB.out⟩

theorem fmtUint_any (u : Nat) (hu : u < 18446744073709551616) (w : World) (htab : PowTab w) :
    Calls Tryz.prog 32 #[.int .u64 u, .int .i64 10] w fun e w' => e = .returned (.string ⟨(Lib.decDigits u).toArray⟩) ∧ Below w.heap.size w w' := by
  have c := ifmtUint_any u hu w htab
  clear htab
  go_enter Tryz.func32, Tryz.ntmps32
  go_wp2_with fail
  refine c.mono ?_
  rintro e w' ⟨rfl, hb⟩
  go_wp2_with fail
  go_ret
  exact ⟨rfl, hb⟩
end Go.Proofs.YtajebceanonalaaGreatDoor

namespace Go.Proofs.YtajebceanonalaaGreatDoor
set_option linter.unusedVariables false
open Go.RowKit

set_option maxRecDepth 100000 in
set_option maxHeartbeats 2000000 in
theorem tenfold_any (r d : Nat) (hr : r < d) (hd : d ≤ 9223372036854775808) (w : World) :
    Calls Tryz.prog 33 #[.int .u64 r, .int .u64 d] w fun e w' => e = .returned (.tuple #[.int .u64 (10 * r / d : Nat), .int .u64 (10 * r % d : Nat)]) ∧ ∃ m, w' = w.drewN m := by
  have cm : ∀ w, Calls Tryz.prog 74 #[.int .u64 r, .int .u64 10] w fun e w' => e = .returned (.tuple #[.int .u64 ((r * 10 / 18446744073709551616 : Nat) : Int), .int .u64 ((r * 10 % 18446744073709551616 : Nat) : Int)]) ∧ w' = w := fun w => Tryz.bits_Mul64 r 10 (by omega) (by omega) w
  have hsum : r * 10 / 18446744073709551616 * 18446744073709551616 + r * 10 % 18446744073709551616 = 10 * r := by omega
  have cd := div64_any (r * 10 / 18446744073709551616) (r * 10 % 18446744073709551616) d (by omega) (by omega) (by omega)
  rw [hsum] at cd
  generalize r * 10 / 18446744073709551616 = h at *
  generalize r * 10 % 18446744073709551616 = l at *
  clear hsum
  go_enter Tryz.func33, Tryz.ntmps33
  go_wp2_with fail
  with_reducible refine (cm _).mono ?_
  rintro e w1 ⟨rfl, rfl⟩
  clear cm
  go_wp2_with fail
  with_reducible refine (cd _).mono ?_
  rintro e w2 ⟨rfl, m, rfl⟩
  clear cd
  go_wp2_with fail
  go_ret2
  exact ⟨rfl, m, rfl⟩

theorem bdrew {B : Nat} {a w : World} (h : Below B a w) (n : Nat) : Below B a (w.drewN n) := h.trans ⟨rfl, rfl, rfl, Nat.le_refl _, fun _ _ => rfl⟩
theorem powGlobal : Tryz.prog.globalNamed "internal/strconv.uint64pow10" = some 5 := by kernel_rfl
theorem PowTab.keep {w w' : World} (h : PowTab w) (hb : Below w.heap.size w w') : PowTab w' := by
  unfold PowTab Lib.TabIs World.var? at h ⊢
  rw [powGlobal] at h ⊢
  simp only [Option.bind_some] at h ⊢
  have hlt : 5 < w.heap.size := by
    rcases Nat.lt_or_ge 5 w.heap.size with h' | h'
    · exact h'
    · rw [Array.getElem?_eq_none h'] at h; cases h
  rw [hb.block _ hlt]
  exact h

/-! ### what a fraction is printed as -/
def sgnL (n : Int) : List UInt8 := if n < 0 then [45] else []
def bodyL (A d : Nat) : List UInt8 :=
  if restN d = 1 then (if d = 1 then Lib.decDigits A else Lib.decDigits (A / d) ++ 46 :: longD (placesN d) (A % d) d) else Lib.decDigits A ++ 47 :: Lib.decDigits d
def printL (n : Int) (d : Nat) : List UInt8 := sgnL n ++ bodyL n.natAbs d

theorem dec_len64 {u : Nat} (h : u < 18446744073709551616) : (Lib.decDigits u).length ≤ 20 := dec_len_le u 20 (Nat.lt_of_lt_of_le h (by decide)) (by decide)
theorem rest_pos {d : Nat} (hd : 0 < d) : 0 < restN d := (strip_spec 5 _ (by decide) (strip_spec 2 d (by decide) hd).2.2).2.2
theorem places_le {d : Nat} (h1 : 0 < d) (h2 : d ≤ 9223372036854775807) : placesN d ≤ 62 := by
  have k2 := cnt_lt 2 d 63 (by decide) h1 (by omega)
  have s2 := strip_spec 2 d (by decide) h1
  have hle2 : stripN 2 d ≤ d := by conv => rhs; rw [s2.1]
                                   exact Nat.le_mul_of_pos_left _ (Nat.pow_pos (by decide))
  have k5 := cnt_lt 5 (stripN 2 d) 63 (by decide) s2.2.2 (Nat.lt_of_le_of_lt hle2 (by omega))
  unfold placesN
  omega

theorem conv_dig : ∀ (q : Nat) (h : q < 10) (w : World), (convert 21 9 (.int .i32 (48 + (q : Int)))).run Tryz.prog w = .ok (.string ⟨#[dgt q]⟩) w
  | 0, _, w => by kernel_rfl
  | 1, _, w => by kernel_rfl
  | 2, _, w => by kernel_rfl
  | 3, _, w => by kernel_rfl
  | 4, _, w => by kernel_rfl
  | 5, _, w => by kernel_rfl
  | 6, _, w => by kernel_rfl
  | 7, _, w => by kernel_rfl
  | 8, _, w => by kernel_rfl
  | 9, _, w => by kernel_rfl
  | n + 10, h, w => absurd h (by omega)
def lenS : Value → Nat
  | .string b => b.size
  | _ => 0
theorem str_snoc (l : List UInt8) (c : UInt8) : (⟨l.toArray⟩ : ByteArray) ++ ⟨#[c]⟩ = ⟨(l ++ [c]).toArray⟩ := strA l [c]

set_option maxRecDepth 100000 in
set_option maxHeartbeats 4000000 in
theorem print_any (n d : Int) (h1 : In64 n) (h2 : In64 d) (w : World) (hp : PowTab w) :
    Calls Tryz.prog 9 #[.agg #[.int .i64 n, .int .i64 d]] w fun e w' =>
      e = .returned (if rightB n d then .tuple #[.string ⟨(printL n d.natAbs).toArray⟩, .nilIface] else .tuple #[.string ⟨#[]⟩, errV 1]) ∧ Below w.heap.size w w' := by
  have ca := right_any n d h1 h2
  have hbx := box1 w #[.int .i64 n, .int .i64 d] 23
  obtain ⟨ta, hsz, hbw⟩ := hbx
  have TA := Lib.hid ta
  have HBW := Lib.hid hbw
  clear ta hsz hbw
  cases hr : rightB n d
  · rw [hr] at ca
    go_enter Tryz.func9, Tryz.ntmps9
    go_wp2_with fail
    with_reducible refine (ca _).mono ?_
    rintro e w1 ⟨rfl, hb1⟩
    have HW1 := Lib.hid (bstep HBW.out hb1 (Nat.le_refl _))
    clear hb1 ca
    go_wp2_with fail
    go_ret2
    exact ⟨rfl, HW1.out⟩
  · rw [hr] at ca
    obtain ⟨a1, a2, a3, a4, a5⟩ := (rightB_iff n d h1 h2).1 hr
    clear hr h1 h2
    have cs := size_any n ⟨a3, a4⟩
    obtain ⟨D, rfl⟩ := Int.eq_ofNat_of_zero_le (show 0 ≤ d by omega)
    obtain ⟨V, hV⟩ : ∃ V, V = printL n (D : Int).natAbs := ⟨_, rfl⟩
    rw [if_pos rfl, ← hV]
    rw [Int.natAbs_natCast] at hV a5
    have HP := Lib.hid (hp.keep HBW.out)
    clear hp
    have hA : n.natAbs < 18446744073709551616 := by omega
    unfold printL at hV
    generalize n.natAbs = A at *
    have HV := Lib.hid hV
    have HG := Lib.hid a5
    clear hV a5
    have hD1 : 1 ≤ D := by omega
    have hD2 : D ≤ 9223372036854775807 := by omega
    clear a1 a2
    have cF := fun (u : Nat) (hu : u ≤ A) w hp => fmtUint_any u (by omega) w hp
    have cE := fun w hp => fmtUint_any D (by omega) w hp
    go_enter Tryz.func9, Tryz.ntmps9
    go_wp2_with fail
    with_reducible refine (ca _).mono ?_
    rintro e w1 ⟨rfl, hb1⟩
    have HW1 := Lib.hid (bstep HBW.out hb1 (Nat.le_refl _))
    replace HP := Lib.hid (HP.out.keep hb1)
    obtain ⟨f0, f1, f2, f3⟩ := (TA.out.keep hb1 (Nat.le_refl _)).two
    clear hb1 ca f2 f3
    go_wp2_with fail
    go_quiet ((go_at_call 31; exact (cs _).mono fun e w1 ⟨he, hw⟩ => ⟨he, _, hw⟩))
    clear cs
    have v1 : IntKind.u64.wrap ((A : Int) / (D : Int)) = ((A / D : Nat) : Int) := by
      rw [← Int.natCast_ediv]; exact wrapN _ (Nat.lt_of_le_of_lt (Nat.div_le_self _ _) hA)
    have hDz : ¬ D = 0 := by omega
    have hq1A : A / D ≤ A := Nat.div_le_self _ _
    obtain ⟨q1, hq1⟩ : ∃ q, q = A / D := ⟨_, rfl⟩
    rw [← hq1] at v1 hq1A
    have HQ1 := Lib.hid hq1
    clear hq1
    go_upto_if 24 with (fail)
    go_cut [6] (fun x wc => x = .string ⟨(sgnL n).toArray⟩ ∧ wc = w1.drewN nq)
    case first =>
      by_cases hn : n < 0
      · have HS := Lib.hid (show sgnL n = [45] from if_pos hn)
        go_wp2_with fail
        go_meet
        case rel => exact ⟨by rw [HS.out], rfl⟩
      · have HS := Lib.hid (show sgnL n = [] from if_neg hn)
        go_wp2_with fail
        go_meet
        case rel => exact ⟨by rw [HS.out], rfl⟩
    case rest =>
      obtain ⟨rfl, rfl⟩ := hcut
      have hSl : (sgnL n).length ≤ 1 := by unfold sgnL; split <;> decide
      have HW2 := Lib.hid (bdrew HW1.out nq)
      have HP2 := Lib.hid (HP.out.keep (bdrew (Below.refl _ _) nq))
      generalize sgnL n = S at *
      clear a3 a4 f0 f1 HW1 HP TA HBW
      generalize w1.drewN nq = w2 at *
      have hw1l := dec_len64 (show q1 < 18446744073709551616 from Nat.lt_of_le_of_lt hq1A hA)
      have c1 := cF q1 hq1A w2 HP2.out
      have HV1 := Lib.hid (show restN D = 1 → D ≠ 1 → V = S ++ Lib.decDigits q1 ++ 46 :: longD (placesN D) (A % D) D from fun g1 g2 => by
        rw [HV.out, HQ1.out]; unfold bodyL; rw [if_pos g1, if_neg g2, List.append_assoc])
      have HV2 := Lib.hid (show D = 1 → V = S ++ Lib.decDigits q1 from fun g => by
        rw [HV.out, HQ1.out, g]; unfold bodyL
        rw [if_pos (show restN 1 = 1 by decide +kernel), if_pos rfl, Nat.div_one])
      generalize Lib.decDigits q1 = Q at *
      have st1 := strA S Q
      have hl1 : ¬ 9223372036854775807 < S.length + Q.length := by omega
      go_wp2_with fail
      with_reducible refine c1.mono ?_
      rintro e w3 ⟨rfl, hb3⟩
      have HW3 := Lib.hid (bstep HW2.out hb3 (Nat.le_refl _))
      have HP3 := Lib.hid (HP2.out.keep hb3)
      clear c1 hb3 HP2 HW2
      by_cases hone : D = 1
      · have HE := Lib.hid (HV2.out hone)
        have hone' : (D : Int) = 1 := by omega
        clear hone
        go_wp2_with fail
        go_ret2
        exact ⟨by rw [HE.out]; rfl, HW3.out⟩
      · have hone' : ((D : Int) == 1) = false := by rw [beq_eq_false_iff_ne]; omega
        go_wp2_with fail
        go_loopw [8] (fun x wr => ∃ m : Nat, x = .int .u64 (m : Nat) ∧ 0 < m ∧ m ≤ D ∧ stripN 2 D = stripN 2 m ∧ wr = w3) (fun x _ => (intOf x).toNat)
        case atStart => exact ⟨D, rfl, hD1, Nat.le_refl _, rfl, rfl⟩
        case round =>
          obtain ⟨m, rfl, hm0, hmd, hst, rfl⟩ := hrel
          have HST := Lib.hid hst
          clear hst
          by_cases h0 : m % 2 = 0
          · obtain ⟨y1, _⟩ := strip_yes (p := 2) (by decide) hm0 h0
            have HY := Lib.hid y1
            have e1 : (m : Int) % 2 = 0 := by omega
            obtain ⟨m2, hm2⟩ : ∃ x, x = m / 2 := ⟨_, rfl⟩
            have e2 : (m : Int) / 2 = (m2 : Int) := by omega
            have g1 : 0 < m2 := by omega
            have g2 : m2 ≤ D := by omega
            have g3 : m2 < m := by omega
            rw [← hm2] at HY
            clear y1 hm2 h0
            go_wp2_with fail
            go_roundw
            case rel => exact ⟨m2, by go_num, g1, g2, by rw [HST.out, HY.out], trivial⟩
            case measure => simp [intOf]; omega
          · have e1 : (m : Int) % 2 = 1 := by omega
            obtain ⟨y1, _⟩ := strip_no (p := 2) h0
            have HM := Lib.hid (show stripN 2 D = m from HST.out.trans y1)
            clear y1 h0
            go_wp2_with fail
            clear e1
            obtain ⟨wq, hwq⟩ : ∃ x, x = wr := ⟨_, rfl⟩
            subst hwq
            go_loopw [8] (fun x wr => ∃ k : Nat, x = .int .u64 (k : Nat) ∧ 0 < k ∧ k ≤ D ∧ stripN 5 m = stripN 5 k ∧ wr = wq) (fun x _ => (intOf x).toNat)
            case atStart => exact ⟨m, rfl, hm0, hmd, rfl, rfl⟩
            case round =>
              obtain ⟨k, rfl, hk0, hkd, hst, rfl⟩ := hrel
              have HST5 := Lib.hid hst
              clear hst
              by_cases h0 : k % 5 = 0
              · obtain ⟨y1, _⟩ := strip_yes (p := 5) (by decide) hk0 h0
                have HY := Lib.hid y1
                have e1 : (k : Int) % 5 = 0 := by omega
                obtain ⟨k2, hk2⟩ : ∃ x, x = k / 5 := ⟨_, rfl⟩
                have e2 : (k : Int) / 5 = (k2 : Int) := by omega
                have g1 : 0 < k2 := by omega
                have g2 : k2 ≤ D := by omega
                have g3 : k2 < k := by omega
                rw [← hk2] at HY
                clear y1 hk2 h0
                go_wp2_with fail
                go_roundw
                case rel => exact ⟨k2, by go_num, g1, g2, by rw [HST5.out, HY.out], trivial⟩
                case measure => simp [intOf]; omega
              · have e1 : ((k : Int) % 5 == 0) = false := by rw [beq_eq_false_iff_ne]; omega
                obtain ⟨y1, _⟩ := strip_no (p := 5) h0
                have HR := Lib.hid (show restN D = k by unfold restN; rw [HM.out, HST5.out, y1])
                clear y1 h0
                by_cases hk1 : k = 1
                · have hk1' : (k : Int) = 1 := by omega
                  have HR1 := Lib.hid (HR.out.trans hk1)
                  rw [hk1']
                  clear hk1' hk1
                  have HE := Lib.hid (HV1.out HR1.out hone)
                  have HZ := Lib.hid (fun j => rest_zero_iff A D hD1 HR1.out HG.out j)
                  have hpl : placesN D ≤ 62 := places_le hD1 hD2
                  have hmod : A % D < D := Nat.mod_lt _ (by omega)
                  have hTl : (S ++ Q).length ≤ 21 := by rw [List.length_append]; omega
                  rw [show S ++ Q ++ 46 :: longD (placesN D) (A % D) D = (S ++ Q) ++ 46 :: longD (placesN D) (A % D) D from rfl] at HE
                  clear st1 hl1 HV1 HV2 HV
                  generalize S ++ Q = T at *
                  have st2 := str_snoc T 46
                  have hl2 : ¬ 9223372036854775807 < T.length + 1 := by omega
                  obtain ⟨r0, hr0⟩ : ∃ r, r = A % D := ⟨_, rfl⟩
                  have er0 : (A : Int) % (D : Int) = (r0 : Int) := by rw [hr0]; exact (Int.natCast_emod _ _).symm
                  rw [← hr0] at HE HZ hmod
                  clear hr0 HM HST HST5
                  go_wp2_with fail
                  rw [er0]
                  clear er0
                  go_loopw [7, 9] (fun s x wr => ∃ j r : Nat, x = .int .u64 (r : Nat) ∧ r = r0 * 10 ^ j % D ∧ j ≤ placesN D ∧ s = .string ⟨(T ++ 46 :: longD j r0 D).toArray⟩ ∧ Below w.heap.size w wr) (fun s _ _ => 1000 - lenS s)
                  case atStart => exact ⟨0, r0, rfl, by rw [Nat.pow_zero, Nat.mul_one, Nat.mod_eq_of_lt hmod], Nat.zero_le _, by simp [longD], HW3.out⟩
                  case round =>
                    obtain ⟨j, r, rfl, hr, hj, rfl, hb⟩ := hrel
                    have hrD : r < D := by rw [hr]; exact Nat.mod_lt _ (by omega)
                    have hz : r = 0 ↔ placesN D ≤ j := by rw [hr]; exact HZ.out j
                    have hlj := longD_len j r0 D
                    have HSN := Lib.hid (longD_snoc j r0 D hD1)
                    have HNX := Lib.hid (show 10 * r % D = r0 * 10 ^ (j + 1) % D by
                      rw [hr, Nat.mul_mod_mod, Nat.pow_succ, Nat.mul_comm (10 ^ j) 10, Nat.mul_left_comm])
                    rw [← hr] at HSN
                    clear hr
                    by_cases h0 : r = 0
                    · have HL := Lib.hid (show longD j r0 D = longD (placesN D) r0 D by rw [show j = placesN D by have := hz.1 h0; omega])
                      subst h0
                      clear hz
                      go_wp2_with fail
                      go_ret2
                      refine ⟨?_, hb⟩
                      rw [HE.out, HL.out]
                      simp
                    · have hr1 : (0 : Int) < r := by omega
                      have hjp : j < placesN D := by
                        rcases Nat.lt_or_ge j (placesN D) with h | h
                        · exact h
                        · exact absurd (hz.2 h) h0
                      have ct := tenfold_any r D hrD (by omega) wr
                      have hq9 : 10 * r / D < 10 := by rw [Nat.div_lt_iff_lt_mul (by omega)]; omega
                      generalize 10 * r / D = q at *
                      generalize 10 * r % D = r2 at *
                      have hcv := fun w => conv_dig q hq9 w
                      have st3 : (⟨(T ++ 46 :: longD j r0 D).toArray⟩ : ByteArray) ++ ⟨#[dgt q]⟩ = ⟨(T ++ 46 :: (longD j r0 D ++ [dgt q])).toArray⟩ := by rw [str_snoc]; simp
                      have hl3 : ¬ 9223372036854775807 < T.length + ((longD j r0 D).length + 1) + 1 := by omega
                      clear hz h0
                      go_wp2_with fail
                      with_reducible refine ct.mono ?_
                      rintro e w4 ⟨rfl, m4, rfl⟩
                      clear ct
                      go_wp2_with fail
                      go_roundw
                      case rel => exact ⟨j + 1, r2, rfl, HNX.out, hjp, by rw [HSN.out], bdrew hb m4⟩
                      case measure =>
                        show 1000 - (T ++ 46 :: (longD j r0 D ++ [dgt q])).length < 1000 - (T ++ 46 :: longD j r0 D).length
                        simp only [List.length_append, List.length_cons, List.length_nil]
                        omega
                · have hk1' : ((k : Int) == 1) = false := by rw [beq_eq_false_iff_ne]; omega
                  have HE := Lib.hid (show V = S ++ (Lib.decDigits A ++ 47 :: Lib.decDigits D) by
                    rw [HV.out]; unfold bodyL; rw [if_neg (by rw [HR.out]; exact hk1)])
                  clear hk1
                  have hlA := dec_len64 hA
                  have hlD := dec_len64 (show D < 18446744073709551616 by omega)
                  have d1 := cF A (Nat.le_refl _) wr HP3.out
                  generalize Lib.decDigits A = QA at *
                  generalize Lib.decDigits D = QD at *
                  have st2 := strA S QA
                  have st3 := str_snoc (S ++ QA) 47
                  have st4 := strA (S ++ QA ++ [47]) QD
                  have hl2 : ¬ 9223372036854775807 < S.length + QA.length := by omega
                  have hl3 : ¬ 9223372036854775807 < S.length + QA.length + 1 := by omega
                  have hl4 : ¬ 9223372036854775807 < S.length + QA.length + 1 + QD.length := by omega
                  go_wp2_with fail
                  with_reducible refine d1.mono ?_
                  rintro e w4 ⟨rfl, hb4⟩
                  have d2 := cE w4 (HP3.out.keep hb4)
                  have HW4 := Lib.hid (bstep HW3.out hb4 (Nat.le_refl _))
                  clear d1 hb4
                  go_wp2_with fail
                  with_reducible refine d2.mono ?_
                  rintro e w5 ⟨rfl, hb5⟩
                  have HW5 := Lib.hid (bstep HW4.out hb5 (Nat.le_refl _))
                  clear d2 hb5
                  go_wp2_with fail
                  go_ret2
                  refine ⟨?_, HW5.out⟩
                  rw [HE.out]
                  simp [strA]
end Go.Proofs.YtajebceanonalaaGreatDoor

namespace Go.Proofs.YtajebceanonalaaGreatDoor.ratParses
set_option linter.unusedVariables false
open Go.ChangeShapes Go.WideShapes Go.ChangeAt Go.RowKit

abbrev laidL : List (String × DataW Unit) := [("math/bits.deBruijn32tab", Rows.laid_math_bits_deBruijn32tab), ("math/bits.deBruijn64tab", Rows.laid_math_bits_deBruijn64tab), ("internal/strconv.uint64pow10", Rows.laid_internal_strconv_uint64pow10), ("unicode/utf8.acceptRanges", Rows.laid_unicode_utf8_acceptRanges), ("errors.errorType", Rows.laid_errors_errorType), ("strconv.ErrRange", Rows.laid_strconv_ErrRange), ("strconv.ErrSyntax", Rows.laid_strconv_ErrSyntax), ("unicode/utf8.first", Rows.laid_unicode_utf8_first)]
abbrev laidD : List (String × DataW Unit) := [("math/bits.deBruijn32tab", Rows.laid_math_bits_deBruijn32tab), ("math/bits.deBruijn64tab", Rows.laid_math_bits_deBruijn64tab), ("internal/strconv.uint64pow10", Rows.laid_internal_strconv_uint64pow10), ("unicode/utf8.acceptRanges", Rows.laid_unicode_utf8_acceptRanges), ("strconv.ErrRange", Rows.laid_strconv_ErrRange), ("strconv.ErrSyntax", Rows.laid_strconv_ErrSyntax), ("unicode/utf8.first", Rows.laid_unicode_utf8_first)]
abbrev laidE : List (String × DataW Unit) := [("errors.errorType", Rows.laid_errors_errorType)]
noncomputable def laidB (os : Os) : World :=
  let w0 := World.holding Tryz.prog os ⟨#[], #[], []⟩
  { w0 with heap := w0.heap.modify 0 fun
      | .cells _ t frozen => .cells #[.iface 171 (.agg #[.pointer (some ⟨11, 25, none⟩)])] t frozen
      | o => o }
noncomputable def laidW (os : Os) : World := (laidB os).layVars Tryz.prog laidD
theorem laidW_os (os : Os) : (laidW os).os = os := by unfold laidW; rw [World.layVars_os]; rfl
theorem laidD_met (os : Os) : laidMet Tryz.prog laidD (laidW os) := by
  have e1 : (laidD.filter fun x => (laidD.map (·.1)).contains x.1) = laidD := List.filter_eq_self.2 fun x hx => List.contains_iff_mem.2 (List.mem_map.2 ⟨x, hx, rfl⟩)
  have e2 : (laidD.filter fun x => !(laidD.map (·.1)).contains x.1) = [] := List.filter_eq_nil_iff.2 fun x hx => by rw [List.contains_iff_mem.2 (List.mem_map.2 ⟨x, hx, rfl⟩)]; simp
  exact laidMet_layVars (w0 := laidB os) (laidD.map (·.1)) [] (by rw [e1]; rfl) (by rw [e1]; kernel_rfl) (by rw [e1]; kernel_rfl) (by rw [e2]; exact LaidIn.none)
theorem laidD_met' (os : Os) (args : Array Value) : laidMet Tryz.prog laidD ((laidW os).forCall (fun _ _ => 0) ⟨#[], args, []⟩).memory :=
  (laidD_met os).of_heap (by simp [World.memory, World.forCall, Input.heap])
theorem laidW_met (os : Os) (args : Array Value) : laidMetH Tryz.prog laidL ((laidW os).forCall (fun _ _ => 0) ⟨#[], args, []⟩).memory :=
  laidMetH_of_parts (laidD_met' os args) (by kernel_rfl)
theorem laidD_of {W : World} (h : laidMetH Tryz.prog laidL W) : laidMet Tryz.prog laidD W ∧ handlesMet Tryz.prog laidE W := h
theorem perr_global : Tryz.prog.globalNamed "errors.errorType" = some 0 := by kernel_rfl
theorem perr_rt : (Tryz.prog.cutTypes.find? (·.1 == "internal/reflectlite.rtype")).map (·.2) = some 171 := by kernel_rfl
theorem perr_row : ((List.range Tryz.prog.types.size).filter fun t => Tryz.prog.rowNamed t [101, 114, 114, 111, 114]) = [25] := by kernel_rfl
theorem perr_handle : typeHandle Tryz.prog 25 = .pointer (some ⟨11, 25, none⟩) := by kernel_rfl
theorem laidT_ofH {W : World} (h0 : laidMetH Tryz.prog laidL W) : LaidT W := by
  have h := (laidD_of h0).2
  obtain ⟨name, u, ty, e1, e2, e3, e4, e5⟩ := h _ (List.mem_singleton.2 rfl)
  have en : name = [101, 114, 114, 111, 114] := (Option.some.inj e1).symm
  subst en
  obtain rfl := Option.some.inj (perr_rt.symm.trans e2)
  have hm : ty ∈ (List.range Tryz.prog.types.size).filter fun t => Tryz.prog.rowNamed t [101, 114, 114, 111, 114] := List.mem_filter.2 ⟨List.mem_range.2 e3, e4⟩
  rw [perr_row] at hm
  obtain rfl := List.mem_singleton.1 hm
  rw [perr_handle] at e5
  simpa [LaidT] using World.var?_cell perr_global e5 0
theorem laidMet_ofH {W : World} (h0 : laidMetH Tryz.prog laidL W) : laidMet Tryz.prog laidD W := (laidD_of h0).1
theorem powGl : Tryz.prog.globalNamed "internal/strconv.uint64pow10" = some 5 := by kernel_rfl
theorem powTab_ofH {W : World} (h0 : laidMetH Tryz.prog laidL W) : PowTab W := by
  have h := laidMet_ofH h0
  have h2 := laidMet.tail (laidMet.tail (h))
  exact Lib.tabIs_of_head (powGl) (t := 188) (e := 42) (n := 20) (by kernel_rfl) Tryz.underlying188 Tryz.underlying42 (by kernel_rfl) (by kernel_rfl) h2
end Go.Proofs.YtajebceanonalaaGreatDoor.ratParses

namespace Go.Proofs.YtajebceanonalaaGreatDoor.ratParses
open Go.ChangeShapes Go.WideShapes Go.ChangeAt Go.RowKit
open Go.ChangeMaps (open_string)
set_option linter.unusedVariables false

theorem own : ownKnob Tryz.prog.godebug = none := by kernel_rfl
theorem laidOut : laidOutB Tryz.prog = true := by kernel_rfl

set_option maxRecDepth 100000 in
set_option maxHeartbeats 4000000 in
theorem lifted (os : Os) (started : os.Started) (H : Type) (enc : TypeId × Value → H) :
    ReturnsInHanded {} Tryz.checked os 3 .any (fun w args => (Rows.ratParsesSpec.pre enc Tryz.prog Tryz.f3 [] false w args ∧ laidMetH Tryz.prog laidL w) ∧ sizedMet enc Tryz.prog Tryz.f3 (OpenSpec.ofChange Rows.ratParsesSpec) false w args)
      (Rows.ratParsesSpec.post enc Tryz.prog Tryz.f3 false true false false) := by
  refine returnsInHanded_of_change_and (C := Tryz.checked) (X := fun w _ => laidMetH Tryz.prog laidL w) (fun _ _ _ hh h => h.of_heap hh) own started (by kernel_rfl) Tryz.func3
    (ChangeSpec.witness_shaped (enc := enc) (C := Tryz.checked) (os := os) (X := fun w _ => laidMetH Tryz.prog laidL w) false (laidW os) #[.string ⟨#[]⟩] 8 (laidW_os os)
      (World.shaped_of_ZipB (by kernel_rfl) (by kernel_rfl)) (by kernel_rfl) (by kernel_rfl) (by kernel_rfl) (laidW_met os _)) ?_
  intro W base args ds gs before hval0 hW hcnd hsz hL0 _
  have hval : ∀ (j : Nat) t v, Tryz.f3.params[j]? = some t → args[j]? = some v → Value.okWide Tryz.prog W .any base t v := hval0
  have hW' := hW
  obtain ⟨p, q, hA0, hV, rfl, hfz, hnd⟩ := hW
  have hA : DataW.TrodAll enc Tryz.prog W 0 (fun _ => true) true Tryz.f3.params.toList args.toList ds p := hA0
  rw [Tryz.params3] at hA hval
  obtain ⟨v0, vs0, d0, ds0, p0, q0, hargs, rfl, rfl, h0, r0⟩ := trodAll_cons hA
  obtain ⟨rfl, rfl, rfl⟩ := trodAll_nil r0
  obtain rfl : args = #[v0] := by cases args; simp_all
  obtain ⟨rfl, rfl⟩ := trodVars_none hV
  obtain ⟨s0, rfl, rfl, rfl, hs0⟩ := open_string Tryz.underlying9 (hval 0 _ _ rfl rfl) h0
  have hr0 := sized_string hsz (j := 0) rfl rfl
  refine (ratparses_str s0 (by unfold maxLen at hs0; exact hs0) W (laidT_ofH hL0)).mono fun e W' ⟨he, hb⟩ => ?_
  exact ⟨_, he, law_post laidOut (by decide +kernel) rfl Tryz.underlying4 rfl (fun l hl => by match l, hl with | [d0], _ => rfl) hW' hb⟩

theorem said : Rows.RatParsesSaid :=
  OpenClaim.holds_of_wide 3 Tryz.f3 rfl rfl rfl rfl rfl rfl rfl ⟨rfl, rfl, rfl, rfl, rfl⟩ rfl rfl rfl rfl rfl (by kernel_rfl) Tryz.func3 (by kernel_rfl)
    (of_decide_eq_true (by kernel_rfl)) (by unfold Func.isWrapper; first | (rw [if_pos (by decide +kernel)]; kernel_rfl) | (rw [if_neg (by decide +kernel)]; exact ⟨rfl, rfl⟩))
    (fun os started H enc _ => lifted os started H enc)

theorem plain (f : FuncId) (fn : Func) (hf : Tryz.pinned.checked.prog.funcNamed "busbar/busbarlaw02.RatParses" = some f) (hfn : Tryz.pinned.checked.prog.funcs[f]? = some fn) :
    true = Tryz.pinned.checked.prog.looks [] ∧ ∀ (j : Nat) t, fn.params[j]? = some t → Tryz.pinned.checked.prog.wantsStandIn t = false := by
  obtain rfl : f = 3 := Option.some.inj ((show Tryz.prog.funcNamed "busbar/busbarlaw02.RatParses" = some 3 by kernel_rfl).symm.trans hf) |>.symm
  obtain rfl : fn = Tryz.f3 := (Option.some.inj (Tryz.func3.symm.trans hfn)).symm
  refine ⟨by kernel_rfl, fun j t ht => ?_⟩
  have hall : Tryz.f3.params.all (fun t => Tryz.prog.wantsStandIn t == false) = true := by kernel_rfl
  have := Array.all_eq_true'.1 hall t (Array.mem_of_getElem? ht)
  exact (show Tryz.prog.wantsStandIn t = false by simpa using this)

theorem proved : Rows.RatParsesCardSaid :=
  Claim7.holds_tied_plain_at .later [] _ _ _ _ said (fun _ h => by cases h) (by kernel_rfl) (fun _ h => by cases h) ratParses_row_tie rfl ⟨rfl, rfl⟩ (by kernel_rfl) rfl plain (by kernel_rfl)
#print axioms proved
end Go.Proofs.YtajebceanonalaaGreatDoor.ratParses
