/-
  Contract of busbarlaw24's apart.
-/
import Derived.Test.YtflghgilcooiiaaDoorFilterR
import Derived.Test.YtflghgilcooiiaaDoorBaseC
import Derived.Deep.RegionWith
import Derived.Deep.DeepCutAuto
namespace Go.Proofs.YtflghgilcooiiaaDoor
set_option linter.unusedVariables false
open Go.RowKit

structure RuleAt (w : World) (g : Nat) (r : RuleD) : Prop where
  c0 : w.cell? ⟨g, 0, none⟩ = some (.bool r.wide)
  c1 : w.cell? ⟨g, 1, none⟩ = some (.int .u32 r.code)
  c2 : w.cell? ⟨g, 2, none⟩ = some (.int .u32 r.mask)
theorem RuleAt.keep {w w' : World} {g : Nat} {r : RuleD} (h : RuleAt w g r) (hb : Below w.heap.size w w') : RuleAt w' g r := ⟨cell_keep' h.c0 hb, cell_keep' h.c1 hb, cell_keep' h.c2 hb⟩
theorem RuleAt.lt {w : World} {g : Nat} {r : RuleD} (h : RuleAt w g r) : g < w.heap.size := World.block_lt_of_cell? w _ h.c0
structure FrameAt (w : World) (g : Nat) (id : Nat) (wide : Bool) : Prop where
  c0 : w.cell? ⟨g, 0, none⟩ = some (.int .u32 id)
  c1 : w.cell? ⟨g, 1, none⟩ = some (.bool wide)
  c2 : w.cell? ⟨g, 2, none⟩ = some (.slice none 0 0)
theorem FrameAt.keep {w w' : World} {g : Nat} {id : Nat} {wide : Bool} (h : FrameAt w g id wide) (hb : Below w.heap.size w w') : FrameAt w' g id wide := ⟨cell_keep' h.c0 hb, cell_keep' h.c1 hb, cell_keep' h.c2 hb⟩
theorem FrameAt.lt {w : World} {g : Nat} {id : Nat} {wide : Bool} (h : FrameAt w g id wide) : g < w.heap.size := World.block_lt_of_cell? w _ h.c0
theorem FrameAt.new (w : World) (id : Nat) (wide : Bool) (ty : TypeId) : FrameAt (w.alloc (.cells #[.int .u32 id, .bool wide, .slice none 0 0] ty)) w.heap.size id wide := by
  refine ⟨?_, ?_, ?_⟩ <;> go_simp
theorem RuleAt.new (w : World) (r : RuleD) (ty : TypeId) : RuleAt (w.alloc (.cells #[.bool r.wide, .int .u32 r.code, .int .u32 r.mask] ty)) w.heap.size r := by
  refine ⟨?_, ?_, ?_⟩ <;> go_simp
theorem below_alloc (w : World) (o : Obj) : Below w.heap.size w (w.alloc o) := (Below.refl _ _).alloc (Nat.le_refl _) _

theorem takesOne_any (r : RuleD) (hr : okRule r) (wide : Bool) (id : Nat) (hid : id < 4294967296) (d : Value) (W : World) :
    Calls Tryd.prog 16 #[.slice (some ⟨W.heap.size, 0, none⟩) 1 1, .agg #[.int .u32 id, .bool wide, d]] (W.alloc (.cells #[.bool r.wide, .int .u32 r.code, .int .u32 r.mask] 38)) fun e w' => e = .returned (.bool (takesR r wide id)) ∧ Below W.heap.size W w' := by
  have hs : SlR (W.alloc (.cells #[.bool r.wide, .int .u32 r.code, .int .u32 r.mask] 38)) (some ⟨W.heap.size, 0, none⟩) 1 [r] := SlOf.lit W enRule 3 (fun _ => rfl) _ _ _ 1 rfl rfl (by decide)
  refine (takes_any [r] (fun x hx => by rw [List.mem_singleton.1 hx]; exact hr) 1 rfl _ _ id hid wide d _ hs).mono ?_
  rintro e w' ⟨rfl, hb⟩
  exact ⟨by rw [takesN_one], bstep (below_alloc W _) hb (Nat.le_refl _)⟩

theorem xor_shl (x i : Nat) (hx : x < 4294967296) (h : i < 32) : bits BinOp.xor IntKind.u32 (x : Int) (IntKind.u32.wrap (2 ^ i)) = ((x ^^^ 2 ^ i : Nat) : Int) := by
  have h2 : (2 : Nat) ^ i < 4294967296 := Nat.lt_of_lt_of_le (Nat.pow_lt_pow_right (by decide) h) (by decide : (2:Nat)^32 ≤ 4294967296)
  have e : IntKind.u32.wrap (2 ^ i) = ((2 ^ i : Nat) : Int) := by
    have h3 : ((2 : Int) ^ i) = ((2 ^ i : Nat) : Int) := by simp
    rw [h3]
    generalize (2 : Nat) ^ i = q at *
    unfold IntKind.wrap
    simp [IntKind.bits, IntKind.signed]
    omega
  rw [e]
  exact u32_xor_nat x _ hx h2

set_option maxRecDepth 100000 in
set_option maxHeartbeats 2000000 in
theorem apart_any (a b : RuleD) (ha : okRule a) (hb : okRule b) (w : World) :
    Calls Tryd.prog 17 #[.agg #[.bool a.wide, .int .u32 a.code, .int .u32 a.mask], .agg #[.bool b.wide, .int .u32 b.code, .int .u32 b.mask]] w fun e w' => e = .returned (.bool (apartN a b)) ∧ Below w.heap.size w w' := by
  have e1 : bits BinOp.and IntKind.u32 (a.code : Int) (a.mask : Int) = ((a.code &&& a.mask : Nat) : Int) := u32_and_nat _ _ ha.1 ha.2
  have E1 := Lib.hid e1
  have hcm : a.code &&& a.mask < 4294967296 := Nat.lt_of_le_of_lt Nat.and_le_left ha.1
  clear e1
  go_enter Tryd.func17, Tryd.ntmps17
  go_wp2_with fail
  rw [E1.out]
  have ra0 := (RuleAt.new w a 38).keep (below_alloc _ (.cells #[.bool b.wide, .int .u32 b.code, .int .u32 b.mask] 38))
  have rb0 := RuleAt.new (w.alloc (.cells #[.bool a.wide, .int .u32 a.code, .int .u32 a.mask] 38)) b 38
  rw [show (w.alloc (.cells #[.bool a.wide, .int .u32 a.code, .int .u32 a.mask] 38)).heap.size = w.heap.size + 1 by simp] at rb0
  have hb0 := bstep (below_alloc w (.cells #[.bool a.wide, .int .u32 a.code, .int .u32 a.mask] 38)) (below_alloc _ (.cells #[.bool b.wide, .int .u32 b.code, .int .u32 b.mask] 38)) (Nat.le_refl _)
  generalize (w.alloc (.cells #[.bool a.wide, .int .u32 a.code, .int .u32 a.mask] 38)).alloc (.cells #[.bool b.wide, .int .u32 b.code, .int .u32 b.mask] 38) = w0 at *
  refine (frame_any _ hcm a.wide _).mono ?_
  rintro e w1 ⟨rfl, hb1⟩
  rw [show frameId (a.code &&& a.mask) a.wide = apartId a from rfl]
  have ra1 := ra0.keep hb1
  have rb1 := rb0.keep hb1
  have hb2 := bstep hb0 hb1 (Nat.le_refl _)
  clear ra0 rb0 hb0 hb1
  obtain ⟨a0, a1, a2⟩ := id ra1
  obtain ⟨b0, b1, b2⟩ := id rb1
  have la := ra1.lt
  have lb := rb1.lt
  go_wp2_with fail
  clear a0 a1 a2 b0 b1 b2 la lb
  have fr2 := FrameAt.new w1 (apartId a) a.wide 32
  have ra2 := ra1.keep (below_alloc w1 (.cells #[.int .u32 (apartId a), .bool a.wide, .slice none 0 0] 32))
  have rb2 := rb1.keep (below_alloc w1 (.cells #[.int .u32 (apartId a), .bool a.wide, .slice none 0 0] 32))
  have hb3 := bstep hb2 (below_alloc w1 (.cells #[.int .u32 (apartId a), .bool a.wide, .slice none 0 0] 32)) (Nat.le_refl _)
  have hz : (w1.alloc (.cells #[.int .u32 (apartId a), .bool a.wide, .slice none 0 0] 32)).heap.size = w1.heap.size + 1 := by simp
  clear ra1 rb1 hb2
  generalize w1.heap.size = gf at *
  generalize w1.alloc (.cells #[.int .u32 (apartId a), .bool a.wide, .slice none 0 0] 32) = w2 at *
  rw [← hz]
  have hidl := apartId_lt a
  have HN : Hid (apartN a b = (takesR a a.wide (apartId a) && (!takesR b a.wide (apartId a) || (List.range 32).any (apartAt a b)))) := rfl
  have ca := takesOne_any a ha a.wide (apartId a) hidl
  have cb := takesOne_any b hb a.wide (apartId a) hidl
  generalize takesR a a.wide (apartId a) = t1 at *
  generalize takesR b a.wide (apartId a) = t2 at *
  refine (ca _ w2).mono ?_
  rintro e w3 ⟨rfl, hb4⟩
  have ra3 := ra2.keep hb4
  have rb3 := rb2.keep hb4
  have fr3 := fr2.keep hb4
  have hb5 := bstep hb3 hb4 (Nat.le_refl _)
  clear ra2 rb2 fr2 hb3 hb4 hz
  cases t1
  · go_wp2_with fail
    go_ret
    exact ⟨by rw [HN.out]; rfl, hb5⟩
  · obtain ⟨a0, a1, a2⟩ := id ra3
    obtain ⟨b0, b1, b2⟩ := id rb3
    have la := ra3.lt
    have lb := rb3.lt
    obtain ⟨f0, f1, f2⟩ := id fr3
    have lf := fr3.lt
    go_wp2_with fail
    clear a0 a1 a2 b0 b1 b2 la lb f0 f1 f2 lf
    refine (cb _ w3).mono ?_
    rintro e w4 ⟨rfl, hb6⟩
    have ra4 := ra3.keep hb6
    have rb4 := rb3.keep hb6
    have fr4 := fr3.keep hb6
    have hb7 := bstep hb5 hb6 (Nat.le_refl _)
    clear ra3 rb3 fr3 hb5 hb6
    cases t2
    · go_wp2_with fail
      go_ret
      exact ⟨by rw [HN.out]; rfl, hb7⟩
    · have HN2 : Hid (apartN a b = (List.range 32).any (apartAt a b)) := Lib.hid (by rw [HN.out]; rfl)
      clear HN ca cb
      go_wp2_with fail
      go_loopw [6] (fun v wr => ∃ i : Nat, i ≤ 32 ∧ v = .int .i64 (i : Nat) ∧ (List.range i).any (apartAt a b) = false ∧ Below w.heap.size w wr ∧ RuleAt wr w.heap.size a ∧ RuleAt wr (w.heap.size + 1) b ∧ FrameAt wr gf (apartId a) a.wide) (fun v _ => 32 - (intOf v).toNat)
      case atStart => exact ⟨0, by omega, rfl, rfl, hb7, ra4, rb4, fr4⟩
      case round =>
        clear hb7 ra4 rb4 fr4
        obtain ⟨i, hi, rfl, hno, hbr, ra, rb, fr⟩ := hrel
        have HNO := Lib.hid hno
        clear hno
        by_cases hlt : i < 32
        · obtain ⟨a0, a1, a2⟩ := id ra
          obtain ⟨b0, b1, b2⟩ := id rb
          have la := ra.lt
          have lb := rb.lt
          obtain ⟨f0, f1, f2⟩ := id fr
          have lf := fr.lt
          go_wp2_with fail
          have hxl : apartId a ^^^ 2 ^ i < 4294967296 := Nat.xor_lt_two_pow (n := 32) hidl (Nat.pow_lt_pow_right (by decide) hlt)
          have EX := Lib.hid (xor_shl (apartId a) i hidl hlt)
          go_cut [7] (fun v w' => ∃ g, v = .pointer (some ⟨g, 0, none⟩) ∧ FrameAt w' g (turnedId a i) a.wide ∧ Below wr.heap.size wr w')
          case first =>
            go_region_with (rw [EX.out]; refine (frame_any (apartId a ^^^ 2 ^ i) hxl a.wide _).mono ?_; rintro e w' ⟨rfl, hb'⟩; have hsz' := hb'.size; try (have n0 := cell_keep' (a := ⟨wr.heap.size, 0, none⟩) (v := .int .u32 0) (by first | (go_simp; done) | fail) hb'; have n1 := cell_keep' (a := ⟨wr.heap.size, 1, none⟩) (v := .bool false) (by first | (go_simp; done) | fail) hb'; have n2 := cell_keep' (a := ⟨wr.heap.size, 2, none⟩) (v := .slice none 0 0) (by first | (go_simp; done) | fail) hb'; have m0 := frozen_keep (a := ⟨wr.heap.size, 0, none⟩) hb' (by simp); have m1 := frozen_keep (a := ⟨wr.heap.size, 1, none⟩) hb' (by simp); have m2 := frozen_keep (a := ⟨wr.heap.size, 2, none⟩) hb' (by simp)))
            all_goals go_wp2_with fail
            all_goals go_meet
            all_goals
              first
                | exact ⟨_, rfl, FrameAt.new _ _ _ _, bstep (bstep (Below.refl wr.heap.size wr).drew hb' (Nat.le_refl _)) (below_alloc _ _) (Nat.le_refl _)⟩
                | (refine ⟨_, rfl, ?_, ((((((Below.refl wr.heap.size wr).drew.alloc (Nat.le_refl _) _).trans (hb'.mono (by simp))).setCell (p := ⟨wr.heap.size, 0, none⟩) (Nat.le_refl _) _).setCell (p := ⟨wr.heap.size, 1, none⟩) (Nat.le_refl _) _).setCell (p := ⟨wr.heap.size, 2, none⟩) (Nat.le_refl _) _)⟩; refine ⟨?_, ?_, ?_⟩ <;> first | (go_simp; done) | (go_simp; rfl))
          obtain ⟨g7, rfl, fr7, hb8⟩ := hcut
          have ra5 := ra.keep hb8
          have rb5 := rb.keep hb8
          have fr5 := fr.keep hb8
          have hb9 := bstep hbr hb8 (Nat.le_refl _)
          have htl := turnedId_lt a i
          have HA : Hid ((List.range (i + 1)).any (apartAt a b) = (takesR a a.wide (turnedId a i) && !takesR b a.wide (turnedId a i))) := Lib.hid (by rw [any_snoc, HNO.out]; rfl)
          have ca := takesOne_any a ha a.wide (turnedId a i) htl
          have cb := takesOne_any b hb a.wide (turnedId a i) htl
          generalize turnedId a i = tid at *
          generalize takesR a a.wide tid = t3 at *
          generalize takesR b a.wide tid = t4 at *
          clear a0 a1 a2 b0 b1 b2 la lb f0 f1 f2 lf
          clear ra rb fr hbr hb8
          obtain ⟨a0, a1, a2⟩ := id ra5
          obtain ⟨b0, b1, b2⟩ := id rb5
          have la := ra5.lt
          have lb := rb5.lt
          obtain ⟨f0, f1, f2⟩ := id fr7
          have lf := fr7.lt
          go_wp2_with fail
          clear a0 a1 a2 b0 b1 b2 la lb f0 f1 f2 lf
          refine (ca _ wc).mono ?_
          rintro e w6 ⟨rfl, hb10⟩
          have ra6 := ra5.keep hb10
          have rb6 := rb5.keep hb10
          have fr6 := fr5.keep hb10
          have fr8 := fr7.keep hb10
          have hb11 := bstep hb9 hb10 (Nat.le_refl _)
          clear ra5 rb5 fr5 fr7 hb9 hb10
          cases t3
          · go_wp2_with fail
            go_roundw
            case rel => exact ⟨i + 1, by omega, by go_num, by rw [HA.out]; rfl, hb11, ra6, rb6, fr6⟩
            case measure => simp [intOf]; omega
          · obtain ⟨a0, a1, a2⟩ := id ra6
            obtain ⟨b0, b1, b2⟩ := id rb6
            have la := ra6.lt
            have lb := rb6.lt
            obtain ⟨f0, f1, f2⟩ := id fr8
            have lf := fr8.lt
            go_wp2_with fail
            clear a0 a1 a2 b0 b1 b2 la lb f0 f1 f2 lf
            refine (cb _ w6).mono ?_
            rintro e w7 ⟨rfl, hb12⟩
            have ra7 := ra6.keep hb12
            have rb7 := rb6.keep hb12
            have fr9 := fr6.keep hb12
            have hb13 := bstep hb11 hb12 (Nat.le_refl _)
            clear ra6 rb6 fr6 fr8 hb11 hb12
            cases t4
            · have HB : Hid (apartN a b = true) := Lib.hid (by
                rw [HN2.out, List.any_eq_true]
                have h := HA.out
                rw [any_snoc, HNO.out] at h
                exact ⟨i, List.mem_range.2 hlt, by simpa using h⟩)
              go_wp2_with fail
              go_ret
              exact ⟨by rw [HB.out]; rfl, hb13⟩
            · go_wp2_with fail
              go_roundw
              case rel => exact ⟨i + 1, by omega, by go_num, by rw [HA.out]; rfl, hb13, ra7, rb7, fr9⟩
              case measure => simp [intOf]; omega
        · obtain rfl : i = 32 := by omega
          go_wp2_with fail
          go_ret
          exact ⟨by rw [HN2.out, HNO.out]; rfl, hbr⟩
end Go.Proofs.YtflghgilcooiiaaDoor
