/-
  PROVED: busbar/busbarlaw02.RatThere: for every input the law returns true and leaves its arguments as they were. No condition.
-/
import Derived.Test.YtajebceanonalaaGreatDoorRatQ
import Derived.Test.YtajebceanonalaaGreatDoorIsErr
import Derived.WalkKit
import Derived.LaidEql
import Derived.Stop.Asserts
import Derived.RowKitTokens
import Derived.Test.YtajebceanonalaaGreatDoorRatD
import Derived.Test.YtajebceanonalaaGreatDoorThrM
import Derived.Test.YtajebceanonalaaGreatDoorCards
import Derived.Test.YtajebceanonalaaGreatDoorTie
import Derived.Test.YtajebceanonalaaGreatDoorTxtP
import Derived.Lay
import Derived.Stop.LaidErr
import Derived.LaidLaws
import Derived.LaidHandle
import Derived.LaidMore
import Derived.MakeChecks
import Derived.Stop.Joined
import Derived.RowKit
import Derived.ChangeSame
import Derived.ChangeVars
import Derived.JoinedOf
import Derived.Lib.LaidTab
import Derived.Lib.LaidU8
import Derived.Test.YtajebceanonalaaGreatDoorCalm
import Derived.SevenTiedAt

namespace Go.Proofs.YtajebceanonalaaGreatDoor
set_option linter.unusedVariables false
open Go.RowKit

theorem works_val : sumV 1 2 1 3 false = .tuple #[.agg #[.int .i64 5, .int .i64 6], .nilIface] := by kernel_rfl

set_option maxHeartbeats 1000000 in
theorem works_any (w : World) : Calls Tryz.prog 10 #[] w fun e w' => e = .returned (.bool true) ∧ Below w.heap.size w w' := by
  have ca := add_any 1 2 1 3 ⟨by decide, by decide⟩ ⟨by decide, by decide⟩ ⟨by decide, by decide⟩ ⟨by decide, by decide⟩
  rw [works_val] at ca
  go_enter Tryz.func10, Tryz.ntmps10
  go_wp2_with fail
  with_reducible refine (ca _).mono ?_
  rintro e w1 ⟨rfl, hb1⟩
  go_wp2_with fail
  go_ret
  exact ⟨rfl, hb1.alloc hb1.size _⟩
end Go.Proofs.YtajebceanonalaaGreatDoor

namespace Go.Proofs.YtajebceanonalaaGreatDoor
set_option linter.unusedVariables false
open Go.RowKit Go.Extern.Stop Go.Stop Go.Extern

theorem as_nil (t : Value) (w : World) :
    Calls Tryz.prog 72 #[.nilIface, t] w fun e w' => e = .returned (.bool false) ∧ w' = w := by
  go_enter Tryz.func72, Tryz.ntmps72
  go_wp2
  go_ret
  exact ⟨rfl, rfl⟩

theorem asValueOf (t : Addr) (w : World) : (ReflectliteValue.unpack (.iface 113 (.pointer (some t)))).run Tryz.prog w
    = .ok (.agg #[.pointer (some ⟨11, 113, none⟩), .pointer (some ⟨w.heap.size, 0, none⟩), .int .u64 150]) (w.alloc (.cells #[.pointer (some t)] 113)) := by kernel_rfl
theorem asType (a : Addr) (w : World) : (ReflectliteValue.methodAny (ReflectliteValue.valueError "reflectlite.Value.Type" 0) (fun t _ _ _ => ReflectliteType.toType t) #[.agg #[.pointer (some ⟨11, 113, none⟩), .pointer (some a), .int .u64 150]]).run Tryz.prog w
    = .ok (.iface 171 (.agg #[.pointer (some ⟨11, 113, none⟩)])) w := by kernel_rfl
theorem asMethodKind (fuel : Nat) (h : Value) (w : World) : (Go.method (fuel + 2) 171 (.agg #[h]) "Kind").run Tryz.prog w = .ok (167, h) w := by kernel_rfl
theorem asKindP (w : World) : ((ReflectliteType.abiMethod fun t => (fun a : Nat => Value.int IntKind.u8 (a : Int)) <$> Rtype.kind t) #[.pointer (some ⟨11, 113, none⟩)]).run Tryz.prog w = .ok (.int .u8 22) w := by kernel_rfl
theorem asKindF (w : World) : ((ReflectliteType.abiMethod fun t => (fun a : Nat => Value.int IntKind.u8 (a : Int)) <$> Rtype.kind t) #[.pointer (some ⟨11, 110, none⟩)]).run Tryz.prog w = .ok (.int .u8 25) w := by kernel_rfl
theorem asrlm (z : Sem Value) (f : TypeId → Addr → Nat → Nat → Sem Value) (v : Value) :
    ReflectliteValue.method z f #[v] = (do match ← ReflectliteValue.parts v with | none => z | some (t, a, fl) => f t a fl (fl % 32)) := rfl
theorem asParts (a : Addr) (w : World) : (ReflectliteValue.parts (.agg #[.pointer (some ⟨11, 113, none⟩), .pointer (some a), .int .u64 150])).run Tryz.prog w = .ok (some (113, a, 150)) w := by kernel_rfl
theorem asIsNil (a p : Addr) (W : World) (ha : W.cell? a = some (.pointer (some p))) :
    (ReflectliteValue.method (ReflectliteValue.valueError "reflectlite.Value.IsNil" 0) ReflectliteValue.isNil #[.agg #[.pointer (some ⟨11, 113, none⟩), .pointer (some a), .int .u64 150]]).run Tryz.prog W = .ok (.bool false) W := by
  rw [asrlm]
  simp only [Sem.run_bind, asParts, Result.andThen]
  simp [ReflectliteValue.isNil, loadVar, isAgg, underlying, Tryz.underlying113, ha, Result.andThen]
theorem asMethodElem (fuel : Nat) (h : Value) (w : World) : (Go.method (fuel + 1) 171 (.agg #[h]) "Elem").run Tryz.prog w = .ok (183, .agg #[h]) w := by kernel_rfl
theorem asMethodImplements (fuel : Nat) (h : Value) (w : World) : (Go.method (fuel + 1) 171 (.agg #[h]) "Implements").run Tryz.prog w = .ok (184, .agg #[h]) w := by kernel_rfl
theorem asMethodAssignable (fuel : Nat) (h : Value) (w : World) : (Go.method (fuel + 1) 171 (.agg #[h]) "AssignableTo").run Tryz.prog w = .ok (181, .agg #[h]) w := by kernel_rfl
theorem asElem (w : World) : (ReflectliteType.method ReflectliteType.elem #[.agg #[.pointer (some ⟨11, 113, none⟩)]]).run Tryz.prog w = .ok (.iface 171 (.agg #[.pointer (some ⟨11, 110, none⟩)])) w := by kernel_rfl
theorem asImplements (w : World) : (ReflectliteType.relation "Implements" ReflectliteType.implements_ #[.agg #[.pointer (some ⟨11, 110, none⟩)], .iface 171 (.agg #[.pointer (some ⟨11, 25, none⟩)])]).run Tryz.prog w = .ok (.bool true) w := by kernel_rfl
theorem asTypeOf (v : Value) (w : World) : (ReflectliteType.typeOf #[.iface 36 v]).run Tryz.prog w = .ok (.iface 171 (.agg #[.pointer (some ⟨11, 36, none⟩)])) w := by kernel_rfl
theorem asAssignable (w : World) : (ReflectliteType.relation "AssignableTo" ReflectliteType.assignableTo #[.agg #[.pointer (some ⟨11, 36, none⟩)], .iface 171 (.agg #[.pointer (some ⟨11, 110, none⟩)])]).run Tryz.prog w = .ok (.bool false) w := by kernel_rfl
theorem noAsE (v : Value) (xT : TypeId) (w : World) : (Instr.typeAssert (.iface 36 v) xT 183 true).run Tryz.prog w = .ok (.tuple #[.nilIface, .bool false]) w := run_typeAssert_lacksB Tryz.underlying183 (by kernel_rfl) (by kernel_rfl) v xT w

set_option maxRecDepth 100000 in
set_option maxHeartbeats 4000000 in
theorem as_errno (n : Int) (t : Addr) (w : World) (hg : w.cell? ⟨0, 0, none⟩ = some (.iface 171 (.agg #[.pointer (some ⟨11, 25, none⟩)]))) :
    Calls Tryz.prog 72 #[.iface 36 (.int .i64 n), .iface 113 (.pointer (some t))] w fun e w' => e = .returned (.bool false) ∧ Below w.heap.size w w' := by
  have h6 := @run_callFunc_extern Tryz.prog 111 _ (fun args => ReflectliteValue.unpack (args.getD 0 (.tuple #[]))) Tryz.func111 (by kernel_rfl) (by kernel_rfl) (by kernel_rfl) (by kernel_rfl)
  have h7 := @run_callFunc_extern Tryz.prog 112 _ (ReflectliteValue.methodAny (ReflectliteValue.valueError "reflectlite.Value.Type" 0) (fun t _ _ _ => ReflectliteType.toType t)) Tryz.func112 (by kernel_rfl) (by kernel_rfl) (by kernel_rfl) (by kernel_rfl)
  have h8 := @run_callFunc_extern Tryz.prog 113 _ (ReflectliteValue.method (ReflectliteValue.valueError "reflectlite.Value.IsNil" 0) ReflectliteValue.isNil) Tryz.func113 (by kernel_rfl) (by kernel_rfl) (by kernel_rfl) (by kernel_rfl)
  have h27 := @run_callFunc_extern Tryz.prog 167 _ (ReflectliteType.abiMethod fun t => do pure (.int .u8 (← Rtype.kind t))) Tryz.func167 (by kernel_rfl) (by kernel_rfl) (by kernel_rfl) (by kernel_rfl)
  have h37 := @run_callFunc_extern Tryz.prog 183 _ (ReflectliteType.method ReflectliteType.elem) Tryz.func183 (by kernel_rfl) (by kernel_rfl) (by kernel_rfl) (by kernel_rfl)
  have h38 := @run_callFunc_extern Tryz.prog 184 _ (ReflectliteType.relation "Implements" ReflectliteType.implements_) Tryz.func184 (by kernel_rfl) (by kernel_rfl) (by kernel_rfl) (by kernel_rfl)
  have h10 := @run_callFunc_extern Tryz.prog 106 _ ReflectliteType.typeOf Tryz.func106 (by kernel_rfl) (by kernel_rfl) (by kernel_rfl) (by kernel_rfl)
  have h35 := @run_callFunc_extern Tryz.prog 181 _ (ReflectliteType.relation "AssignableTo" ReflectliteType.assignableTo) Tryz.func181 (by kernel_rfl) (by kernel_rfl) (by kernel_rfl) (by kernel_rfl)
  have tO := asTypeOf
  have mA := asMethodAssignable
  have a25 := asAssignable
  have f6 := asValueOf
  have f7 := asType
  have mK := asMethodKind
  have mE := asMethodElem
  have mI := asMethodImplements
  have k27 := asKindP
  have k25 := asKindF
  have e27 := asElem
  have i25 := asImplements
  have nA := noAsE
  have uE := noUnwrapE
  have vE := noUnwrapsE
  have n8 := asIsNil ⟨w.heap.size, 0, none⟩ t ((w.alloc (.cells #[.pointer (some t)] 113)).alloc (.cells #[.pointer (some ⟨11, 113, none⟩), .pointer (some ⟨w.heap.size, 0, none⟩), .int .u64 150] 145)) (by simp)
  have hlt : 0 < w.heap.size := World.block_lt_of_cell? w _ hg
  have hg2 : ((w.alloc (.cells #[.pointer (some t)] 113)).alloc (.cells #[.pointer (some ⟨11, 113, none⟩), .pointer (some ⟨w.heap.size, 0, none⟩), .int .u64 150] 145)).cell? ⟨0, 0, none⟩ = some (.iface 171 (.agg #[.pointer (some ⟨11, 25, none⟩)])) := by
    rw [World.cell?_alloc_lt _ _ ⟨0, 0, none⟩ (by first | (simp; done) | (simp; omega)), World.cell?_alloc_lt _ _ ⟨0, 0, none⟩ hlt]; exact hg
  go_enter Tryz.func72, Tryz.ntmps72
  go_wp2
  refine wp_loop_rounds 1 ?_
  rw [rounds_succ]
  go_wp2
  go_ret
  exact ⟨rfl, ((((Below.refl _ _).alloc (Nat.le_refl _) _).alloc (by simp) _).alloc (by simp; omega) _)⟩
end Go.Proofs.YtajebceanonalaaGreatDoor

namespace Go.Proofs.YtajebceanonalaaGreatDoor
set_option linter.unusedVariables false
open Go.RowKit

/-- errors.errorType, as it is laid -/
def LaidT (w : World) : Prop := w.cell? ⟨0, 0, none⟩ = some (.iface 171 (.agg #[.pointer (some ⟨11, 25, none⟩)]))
theorem LaidT.keep {w w' : World} (h : LaidT w) (hb : Below w.heap.size w w') : LaidT w' := cell_keep' h hb

set_option maxRecDepth 100000 in
set_option maxHeartbeats 1000000 in
theorem plain_nil (n : Int) (w : World) : Calls Tryz.prog 30 #[.nilIface, .int .i64 n] w fun e w' => e = .returned (.bool (decide (0 = n))) ∧ Below w.heap.size w w' := by
  have c1 := num_nil
  by_cases h : 0 = n
  · subst h
    go_enter Tryz.func30, Tryz.ntmps30
    go_wp2_with fail
    with_reducible refine (c1 _).mono ?_
    rintro e w1 ⟨rfl, rfl⟩
    go_wp2_with fail
    go_ret
    exact ⟨rfl, (Below.refl _ _).alloc (Nat.le_refl _) _⟩
  · have hz : ((0 : Int) == n) = false := by rw [beq_eq_false_iff_ne]; exact h
    rw [decide_eq_false h]
    go_enter Tryz.func30, Tryz.ntmps30
    go_wp2_with fail
    with_reducible refine (c1 _).mono ?_
    rintro e w1 ⟨rfl, rfl⟩
    go_wp2_with fail
    go_ret
    exact ⟨rfl, (Below.refl _ _).alloc (Nat.le_refl _) _⟩

set_option maxRecDepth 100000 in
set_option maxHeartbeats 1000000 in
theorem plain_errno (m n : Int) (h1 : 1 ≤ m) (h2 : m ≤ 26) (w : World) (hg : LaidT w) : Calls Tryz.prog 30 #[errV m, .int .i64 n] w fun e w' => e = .returned (.bool (decide (m = n))) ∧ Below w.heap.size w w' := by
  have c1 := num_errno m h1 h2
  have HG := Lib.hid hg
  clear hg
  unfold errV
  by_cases h : m = n
  · subst h
    go_enter Tryz.func30, Tryz.ntmps30
    go_wp2_with fail
    with_reducible refine (c1 _).mono ?_
    rintro e w1 ⟨rfl, rfl⟩
    go_wp2_with fail
    with_reducible refine (as_errno m _ _ ?_).mono ?_
    · exact HG.out.keep ((Below.refl _ _).alloc (Nat.le_refl _) _)
    rintro e w2 ⟨rfl, hb⟩
    have HB := Lib.hid (((Below.refl _ _).alloc (Nat.le_refl _) _).trans (hb.mono (by simp)))
    clear hb
    go_wp2_with fail
    go_ret
    exact ⟨by simp, HB.out⟩
  · have hz : (m == n) = false := by rw [beq_eq_false_iff_ne]; exact h
    rw [decide_eq_false h]
    go_enter Tryz.func30, Tryz.ntmps30
    go_wp2_with fail
    with_reducible refine (c1 _).mono ?_
    rintro e w1 ⟨rfl, rfl⟩
    go_wp2_with fail
    go_ret
    exact ⟨rfl, (Below.refl _ _).alloc (Nat.le_refl _) _⟩

/-- the law's is: of one fraction on both sides -/
theorem is_same_any (x y : Int) (e : Value) (n : Int) (p : Bool) (w : World) (cP : ∀ w', Below w.heap.size w w' → Calls Tryz.prog 30 #[e, .int .i64 n] w' fun e w'' => e = .returned (.bool p) ∧ Below w'.heap.size w' w'') :
    Calls Tryz.prog 8 #[.agg #[.int .i64 x, .int .i64 y], e, .agg #[.int .i64 x, .int .i64 y], .int .i64 n] w fun e w' => e = .returned (.bool p) ∧ Below w.heap.size w w' := by
  go_enter Tryz.func8, Tryz.ntmps8
  go_wp2_with fail
  with_reducible refine (cP _ ?_).mono ?_
  · first | exact Below.refl _ _ | exact (Below.refl _ _).alloc (Nat.le_refl _) _ | exact ((Below.refl _ _).alloc (Nat.le_refl _) _).alloc (by simp) _
  rintro e w1 ⟨rfl, hb⟩
  have HB := Lib.hid hb
  clear hb cP
  have HB2 := Lib.hid (((((Below.refl w.heap.size w).alloc (Nat.le_refl _) (.cells #[.int .i64 x, .int .i64 y] 23)).alloc (by simp) (.cells #[.int .i64 x, .int .i64 y] 23))))
  cases p
  · go_wp2_with fail
    exact bodyPost_ret (v := .bool false) (by simp [results, Tryz.results8, go_sem]) rfl ⟨rfl, by first | exact HB.out | exact HB2.out.trans (HB.out.mono HB2.out.size)⟩
  · go_wp2_with fail
    exact bodyPost_ret (v := .bool true) (by simp [results, Tryz.results8, go_sem]) rfl ⟨rfl, by first | exact HB.out | exact HB2.out.trans (HB.out.mono HB2.out.size)⟩
end Go.Proofs.YtajebceanonalaaGreatDoor

namespace Go.Proofs.YtajebceanonalaaGreatDoor
set_option linter.unusedVariables false
open Go.RowKit

theorem printL_len (n : Int) (d : Nat) (hn : In64 n) (h1 : 1 ≤ d) (h2 : d ≤ 9223372036854775807) : (printL n d).length ≤ 100 := by
  have hs := sgn_lenL n
  have hA : (Lib.decDigits n.natAbs).length ≤ 20 := dec_len64 (by have := hn.1; have := hn.2; omega)
  have hd : (Lib.decDigits d).length ≤ 20 := dec_len64 (by omega)
  have hq : n.natAbs / d ≤ n.natAbs := Nat.div_le_self _ _
  have hQ : (Lib.decDigits (n.natAbs / d)).length ≤ 20 := dec_len64 (by have := hn.1; have := hn.2; omega)
  have hk := places_le h1 h2
  unfold printL bodyL
  rw [List.length_append]
  split
  · split
    · omega
    · rw [List.length_append, List.length_cons, longD_len]; omega
  · rw [List.length_append, List.length_cons]; omega

set_option maxRecDepth 100000 in
set_option maxHeartbeats 2000000 in
theorem there_bad (n d : Int) (h1 : In64 n) (h2 : In64 d) (hr : rightB n d = false) (w : World) (hp : PowTab w) :
    Calls Tryz.prog 4 #[.agg #[.int .i64 n, .int .i64 d]] w fun e w' => e = .returned (.bool true) ∧ Below w.heap.size w w' := by
  have cr := right_any n d h1 h2
  have co := fun w hp => print_any n d h1 h2 w hp
  rw [hr] at cr
  simp only [hr, Bool.false_eq_true, if_false, errV] at co
  have cw := works_any
  obtain ⟨ta, hsz, hbw⟩ := box1 w #[.int .i64 n, .int .i64 d] 23
  have TA := Lib.hid ta
  have HBW := Lib.hid hbw
  have HP := Lib.hid (hp.keep hbw)
  clear ta hsz hbw hr hp
  obtain ⟨a0, a1, _, _⟩ := TA.out.two
  go_enter Tryz.func4, Tryz.ntmps4
  go_wp2_with fail
  with_reducible refine (co _ HP.out).mono ?_
  rintro e w1 ⟨rfl, hb1⟩
  have HW1 := Lib.hid (bstep HBW.out hb1 (Nat.le_refl _))
  have TA1 := Lib.hid (TA.out.keep hb1 (Nat.le_refl _))
  clear a0 a1
  obtain ⟨f0, f1, f2, f3⟩ := TA1.out.two
  have l0 := fun x : Later w1 => Later.cell f0 x
  have l1 := fun x : Later w1 => Later.cell f1 x
  clear hb1 co
  go_wp2_with fail
  refine wp_region_later0 (by kernel_rfl) (by kernel_rfl) ?_
  repeat (go_big_quiet_step ((first | (go_at_call 10; with_reducible exact Later.made (cw _)) | (go_at_call 11; with_reducible exact Later.made (cr _)))))
  refine wpQuiet_nil ?_
  rintro _ ⟨x, rfl⟩
  have HW2 := Lib.hid (bstep HW1.out x.below (Nat.le_refl _))
  clear l0 l1 f0 f1 f2 f3
  generalize x.w = w2 at *
  go_wp2_with fail
  go_ret
  exact ⟨rfl, HW2.out⟩

set_option maxRecDepth 100000 in
set_option maxHeartbeats 4000000 in
theorem there_ok (n d : Int) (h1 : In64 n) (h2 : In64 d) (hr : rightB n d = true) (w : World) (hp : PowTab w) :
    Calls Tryz.prog 4 #[.agg #[.int .i64 n, .int .i64 d]] w fun e w' => e = .returned (.bool true) ∧ Below w.heap.size w w' := by
  have cr := right_any n d h1 h2
  have co := fun w hp => print_any n d h1 h2 w hp
  obtain ⟨p1, p2, p3, p4, p5⟩ := (rightB_iff n d h1 h2).1 hr
  rw [hr] at cr
  simp only [hr, if_true] at co
  obtain ⟨D, rfl⟩ := Int.eq_ofNat_of_zero_le (show 0 ≤ d by omega)
  rw [Int.natAbs_natCast] at p5
  have hlaw := there_law n D h1 (by omega) (by omega) p5
  have hlen := printL_len n D h1 (by omega) (by omega)
  simp only [Int.natAbs_natCast] at co
  generalize printL n D = V at *
  have cw := works_any
  obtain ⟨ta, hsz, hbw⟩ := box1 w #[.int .i64 n, .int .i64 D] 23
  have TA := Lib.hid ta
  have HBW := Lib.hid hbw
  have HP := Lib.hid (hp.keep hbw)
  have HL := Lib.hid hlaw
  clear ta hsz hbw hr hp hlaw p1 p2 p3 p4 p5 h1 h2
  obtain ⟨a0, a1, _, _⟩ := TA.out.two
  go_enter Tryz.func4, Tryz.ntmps4
  go_wp2_with fail
  with_reducible refine (co _ HP.out).mono ?_
  rintro e w1 ⟨rfl, hb1⟩
  have HW1 := Lib.hid (bstep HBW.out hb1 (Nat.le_refl _))
  have TA1 := Lib.hid (TA.out.keep hb1 (Nat.le_refl _))
  clear a0 a1
  obtain ⟨f0, f1, f2, f3⟩ := TA1.out.two
  have l0 := fun x : Later w1 => Later.cell f0 x
  have l1 := fun x : Later w1 => Later.cell f1 x
  clear hb1 co
  go_wp2_with fail
  refine wp_region_later0 (by kernel_rfl) (by kernel_rfl) ?_
  repeat (go_big_quiet_step ((first | (go_at_call 10; with_reducible exact Later.made (cw _)) | (go_at_call 11; with_reducible exact Later.made (cr _)))))
  refine wpQuiet_nil ?_
  rintro _ ⟨x, rfl⟩
  have HW2 := Lib.hid (bstep HW1.out x.below (Nat.le_refl _))
  have TA2 := Lib.hid (Later.blk TA1.out x)
  clear l0 l1 f0 f1 f2 f3 TA1 TA HW1 HBW HP cr cw
  generalize x.w = w2 at *
  go_wp2_with fail
  go_loopw [5, 6] (fun a i wr => ∃ k : Nat, k ≤ V.length ∧ i = .int .i64 (k : Nat) ∧ a = .int .i64 (lastAt (V.take k)) ∧ wr = w2) (fun _ i _ => V.length - (intOf i).toNat)
  case atStart => exact ⟨0, Nat.zero_le _, rfl, rfl, rfl⟩
  case round =>
    obtain ⟨k, hk, rfl, rfl, rfl⟩ := hrel
    by_cases hlt : (k : Int) < V.length
    · have hlt' : k < V.length := by omega
      have hget : (⟨V.toArray⟩ : ByteArray)[k]'hlt' = V[k] := rfl
      have hsn := lastAt_snoc (V.take k) V[k]
      rw [← List.take_succ_eq_append_getElem hlt', List.length_take_of_le hk] at hsn
      have HSN := Lib.hid hsn
      clear hsn
      generalize V[k] = c at *
      by_cases hc : c = 47
      · have HS2 := Lib.hid (show lastAt (V.take (k + 1)) = k by rw [HSN.out, if_pos hc])
        have hb : ((c.toNat : Int) == 47) = true := by rw [hc]; rfl
        clear HSN hc
        generalize lastAt (V.take k) = L at *
        go_wp2_with fail
        go_roundw
        case rel => exact ⟨k + 1, by omega, by first | rfl | go_num, by rw [HS2.out], trivial⟩
        case measure => (simp [intOf] <;> omega)
      · have HS2 := Lib.hid (show lastAt (V.take (k + 1)) = lastAt (V.take k) by rw [HSN.out, if_neg hc])
        have hb : ((c.toNat : Int) == 47) = false := by
          rw [beq_eq_false_iff_ne]; intro h; exact hc (UInt8.toNat.inj (by have e : UInt8.toNat 47 = 47 := rfl; rw [e]; omega))
        clear HSN hc
        go_wp2_with fail
        go_roundw
        case rel => exact ⟨k + 1, by omega, by first | rfl | go_num, by rw [HS2.out], trivial⟩
        case measure => (simp [intOf] <;> omega)
    · have hkl : V.take k = V := by rw [List.take_of_length_le (by omega)]
      rw [hkl]
      clear hkl
      obtain ⟨f0, f1, f2, f3⟩ := TA2.out.two
      rcases HL.out with ⟨e1, e2⟩ | ⟨at', q1, q2, q3, q4, q5⟩
      · have cp := parse_any V (by omega)
        rw [e2] at cp
        rw [e1]
        simp only [okV] at cp
        clear e1 e2 HL
        go_wp2_with fail
        with_reducible refine (cp _).mono ?_
        rintro e w3 ⟨rfl, hb⟩
        have HW3 := Lib.hid (bstep HW2.out hb (Nat.le_refl _))
        have TA3 := Lib.hid (TA2.out.keep hb (Nat.le_refl _))
        clear hb cp f0 f1 f2 f3
        obtain ⟨tb, hsz, hbw⟩ := box1 w3 #[.int .i64 n, .int .i64 (D : Int)] 23
        have HW4 := Lib.hid (bstep HW3.out hbw (Nat.le_refl _))
        obtain ⟨f0, f1, f2, f3⟩ := (TA3.out.keep hbw (Nat.le_refl _)).two
        obtain ⟨g0, g1, g2, g3⟩ := tb.two
        clear hsz hbw tb
        go_wp2_with fail
        go_ret
        exact ⟨rfl, HW4.out⟩
      · have cp := parse_any (V.take at') (by rw [List.length_take]; omega)
        have cq := parse_any (V.drop (at' + 1)) (by rw [List.length_drop]; omega)
        rw [q3] at cp
        rw [q4] at cq
        rw [q2]
        simp only [okV] at cp cq
        have he1 : (⟨V.toArray⟩ : ByteArray).extract 0 at' = ⟨(V.take at').toArray⟩ := by
          rw [extract_midR V 0 at' (by omega)]; simp
        have he2 : (⟨V.toArray⟩ : ByteArray).extract (at' + 1) V.length = ⟨(V.drop (at' + 1)).toArray⟩ := by
          rw [extract_midR V (at' + 1) V.length (Nat.le_refl _), List.take_of_length_le (by rw [List.length_drop]; omega)]
        have hgt : (1 : Int) < (D : Int) := by omega
        clear q2 q3 q4 q5 HL
        go_wp2_with fail
        with_reducible refine (cp _).mono ?_
        rintro e w3 ⟨rfl, hb⟩
        have HW3 := Lib.hid (bstep HW2.out hb (Nat.le_refl _))
        have TA3 := Lib.hid (TA2.out.keep hb (Nat.le_refl _))
        clear hb cp f0 f1 f2 f3
        obtain ⟨tb, hsz, hbw⟩ := box1 w3 #[.int .i64 n, .int .i64 (1 : Int)] 23
        have HW4 := Lib.hid (bstep HW3.out hbw (Nat.le_refl _))
        have TA4 := Lib.hid (TA3.out.keep hbw (Nat.le_refl _))
        have TB4 := Lib.hid tb
        clear hsz hbw tb
        go_wp2_with fail
        generalize w3.alloc (.cells #[.int .i64 n, .int .i64 (1 : Int)] 23) = w4 at *
        with_reducible refine (cq _).mono ?_
        rintro e w5 ⟨rfl, hb⟩
        have HW5 := Lib.hid (bstep HW4.out hb (Nat.le_refl _))
        have TA5 := Lib.hid (TA4.out.keep hb (Nat.le_refl _))
        have TB5 := Lib.hid (TB4.out.keep hb (Nat.le_refl _))
        clear hb cq
        obtain ⟨tc, hsz, hbw⟩ := box1 w5 #[.int .i64 (D : Int), .int .i64 (1 : Int)] 23
        have HW6 := Lib.hid (bstep HW5.out hbw (Nat.le_refl _))
        obtain ⟨f0, f1, f2, f3⟩ := (TA5.out.keep hbw (Nat.le_refl _)).two
        obtain ⟨g0, g1, g2, g3⟩ := (TB5.out.keep hbw (Nat.le_refl _)).two
        obtain ⟨k0, k1, k2, k3⟩ := tc.two
        clear hsz hbw tc
        go_wp2_with fail
        go_ret
        exact ⟨rfl, HW6.out⟩

theorem ratthere_any (n d : Int) (h1 : In64 n) (h2 : In64 d) (w : World) (hp : PowTab w) :
    Calls Tryz.prog 4 #[.agg #[.int .i64 n, .int .i64 d]] w fun e w' => e = .returned (.bool true) ∧ Below w.heap.size w w' := by
  cases hr : rightB n d
  · exact there_bad n d h1 h2 hr w hp
  · exact there_ok n d h1 h2 hr w hp
end Go.Proofs.YtajebceanonalaaGreatDoor

namespace Go.Proofs.YtajebceanonalaaGreatDoor.ratThere
set_option linter.unusedVariables false
open Go.ChangeShapes Go.WideShapes Go.ChangeAt Go.RowKit

abbrev laidL : List (String × DataW Unit) := [("math/bits.deBruijn32tab", Rows.laid_math_bits_deBruijn32tab), ("math/bits.deBruijn64tab", Rows.laid_math_bits_deBruijn64tab), ("internal/strconv.uint64pow10", Rows.laid_internal_strconv_uint64pow10), ("unicode/utf8.acceptRanges", Rows.laid_unicode_utf8_acceptRanges), ("strconv.ErrRange", Rows.laid_strconv_ErrRange), ("strconv.ErrSyntax", Rows.laid_strconv_ErrSyntax), ("unicode/utf8.first", Rows.laid_unicode_utf8_first)]
abbrev laidD : List (String × DataW Unit) := [("math/bits.deBruijn32tab", Rows.laid_math_bits_deBruijn32tab), ("math/bits.deBruijn64tab", Rows.laid_math_bits_deBruijn64tab), ("internal/strconv.uint64pow10", Rows.laid_internal_strconv_uint64pow10), ("unicode/utf8.acceptRanges", Rows.laid_unicode_utf8_acceptRanges), ("strconv.ErrRange", Rows.laid_strconv_ErrRange), ("strconv.ErrSyntax", Rows.laid_strconv_ErrSyntax), ("unicode/utf8.first", Rows.laid_unicode_utf8_first)]
noncomputable def laidB (os : Os) : World := World.holding Tryz.prog os ⟨#[], #[], []⟩
noncomputable def laidW (os : Os) : World := (laidB os).layVars Tryz.prog laidD
theorem laidW_os (os : Os) : (laidW os).os = os := by unfold laidW; rw [World.layVars_os]; rfl
theorem laidD_met (os : Os) : laidMet Tryz.prog laidD (laidW os) := by
  have e1 : (laidD.filter fun x => (laidD.map (·.1)).contains x.1) = laidD := List.filter_eq_self.2 fun x hx => List.contains_iff_mem.2 (List.mem_map.2 ⟨x, hx, rfl⟩)
  have e2 : (laidD.filter fun x => !(laidD.map (·.1)).contains x.1) = [] := List.filter_eq_nil_iff.2 fun x hx => by rw [List.contains_iff_mem.2 (List.mem_map.2 ⟨x, hx, rfl⟩)]; simp
  exact laidMet_layVars (w0 := laidB os) (laidD.map (·.1)) [] (by rw [e1]; rfl) (by rw [e1]; kernel_rfl) (by rw [e1]; kernel_rfl) (by rw [e2]; exact LaidIn.none)
theorem laidD_met' (os : Os) (args : Array Value) : laidMet Tryz.prog laidD ((laidW os).forCall (fun _ _ => 0) ⟨#[], args, []⟩).memory :=
  (laidD_met os).of_heap (by simp [World.memory, World.forCall, Input.heap])
theorem laidW_met (os : Os) (args : Array Value) : laidMetH Tryz.prog laidL ((laidW os).forCall (fun _ _ => 0) ⟨#[], args, []⟩).memory := by
  rw [MakeChecks.laidMetH_plain _ _ _ (by kernel_rfl)]; exact laidD_met' os args
theorem laidMet_ofH {W : World} (h0 : laidMetH Tryz.prog laidL W) : laidMet Tryz.prog laidD W := by
  rw [MakeChecks.laidMetH_plain _ _ _ (by kernel_rfl)] at h0; exact h0
theorem powGl : Tryz.prog.globalNamed "internal/strconv.uint64pow10" = some 5 := by kernel_rfl
theorem powTab_ofH {W : World} (h0 : laidMetH Tryz.prog laidL W) : PowTab W := by
  have h := laidMet_ofH h0
  have h2 := laidMet.tail (laidMet.tail (h))
  exact Lib.tabIs_of_head (powGl) (t := 188) (e := 42) (n := 20) (by kernel_rfl) Tryz.underlying188 Tryz.underlying42 (by kernel_rfl) (by kernel_rfl) h2
end Go.Proofs.YtajebceanonalaaGreatDoor.ratThere

namespace Go.Proofs.YtajebceanonalaaGreatDoor.ratThere
open Go.ChangeShapes Go.WideShapes Go.ChangeAt Go.RowKit
open Go.ChangeMaps (open_string)
set_option linter.unusedVariables false

theorem own : ownKnob Tryz.prog.godebug = none := by kernel_rfl
theorem laidOut : laidOutB Tryz.prog = true := by kernel_rfl

set_option maxRecDepth 100000 in
set_option maxHeartbeats 4000000 in
theorem lifted (os : Os) (started : os.Started) (H : Type) (enc : TypeId × Value → H) :
    ReturnsInHanded {} Tryz.checked os 4 .any (fun w args => (Rows.ratThereSpec.pre enc Tryz.prog Tryz.f4 [] false w args ∧ laidMetH Tryz.prog laidL w) ∧ sizedMet enc Tryz.prog Tryz.f4 (OpenSpec.ofChange Rows.ratThereSpec) false w args)
      (Rows.ratThereSpec.post enc Tryz.prog Tryz.f4 false true false false) := by
  refine returnsInHanded_of_change_and (C := Tryz.checked) (X := fun w _ => laidMetH Tryz.prog laidL w) (fun _ _ _ hh h => h.of_heap hh) own started (by kernel_rfl) Tryz.func4
    (ChangeSpec.witness_shaped (enc := enc) (C := Tryz.checked) (os := os) (X := fun w _ => laidMetH Tryz.prog laidL w) false (laidW os) #[.agg #[.int .i64 0, .int .i64 0]] 8 (laidW_os os)
      (World.shaped_of_ZipB (by kernel_rfl) (by kernel_rfl)) (by kernel_rfl) (by kernel_rfl) (by kernel_rfl) (laidW_met os _)) ?_
  intro W base args ds gs before hval0 hW hcnd hsz hL0 _
  have hval : ∀ (j : Nat) t v, Tryz.f4.params[j]? = some t → args[j]? = some v → Value.okWide Tryz.prog W .any base t v := hval0
  have hW' := hW
  obtain ⟨p, q, hA0, hV, rfl, hfz, hnd⟩ := hW
  have hA : DataW.TrodAll enc Tryz.prog W 0 (fun _ => true) true Tryz.f4.params.toList args.toList ds p := hA0
  rw [Tryz.params4] at hA hval
  obtain ⟨v0, vs0, d0, ds0, p0, q0, hargs, rfl, rfl, h0, r0⟩ := trodAll_cons hA
  obtain ⟨rfl, rfl, rfl⟩ := trodAll_nil r0
  obtain rfl : args = #[v0] := by cases args; simp_all
  obtain ⟨rfl, rfl⟩ := trodVars_none hV
  obtain ⟨c00, c01, y00, y01, m0, rfl, rfl, rfl, z00, z01⟩ := Joins.open_agg2 Tryz.underlying23 (by kernel_rfl) (by kernel_rfl) (hval 0 _ _ rfl rfl) h0
  obtain ⟨rn0, e00, _, wn0⟩ := DataW.trod_int Tryz.underlying2 z00
  obtain ⟨rd0, e01, _, wd0⟩ := DataW.trod_int Tryz.underlying2 z01
  simp only [List.cons.injEq, and_true] at e00 e01
  subst e00 e01
  have bn0 := i64_bd wn0
  have bd0 := i64_bd wd0
  refine (ratthere_any rn0 rd0 bn0 bd0 W (powTab_ofH hL0)).mono fun e W' ⟨he, hb⟩ => ?_
  exact ⟨_, he, law_post laidOut (by decide +kernel) rfl Tryz.underlying4 rfl (fun l hl => by match l, hl with | [d0], _ => rfl) hW' hb⟩

theorem said : Rows.RatThereSaid :=
  OpenClaim.holds_of_wide 4 Tryz.f4 rfl rfl rfl rfl rfl rfl rfl ⟨rfl, rfl, rfl, rfl, rfl⟩ rfl rfl rfl rfl rfl (by kernel_rfl) Tryz.func4 (by kernel_rfl)
    (of_decide_eq_true (by kernel_rfl)) (by unfold Func.isWrapper; first | (rw [if_pos (by decide +kernel)]; kernel_rfl) | (rw [if_neg (by decide +kernel)]; exact ⟨rfl, rfl⟩))
    (fun os started H enc _ => lifted os started H enc)

theorem plain (f : FuncId) (fn : Func) (hf : Tryz.pinned.checked.prog.funcNamed "busbar/busbarlaw02.RatThere" = some f) (hfn : Tryz.pinned.checked.prog.funcs[f]? = some fn) :
    true = Tryz.pinned.checked.prog.looks [] ∧ ∀ (j : Nat) t, fn.params[j]? = some t → Tryz.pinned.checked.prog.wantsStandIn t = false := by
  obtain rfl : f = 4 := Option.some.inj ((show Tryz.prog.funcNamed "busbar/busbarlaw02.RatThere" = some 4 by kernel_rfl).symm.trans hf) |>.symm
  obtain rfl : fn = Tryz.f4 := (Option.some.inj (Tryz.func4.symm.trans hfn)).symm
  refine ⟨by kernel_rfl, fun j t ht => ?_⟩
  have hall : Tryz.f4.params.all (fun t => Tryz.prog.wantsStandIn t == false) = true := by kernel_rfl
  have := Array.all_eq_true'.1 hall t (Array.mem_of_getElem? ht)
  exact (show Tryz.prog.wantsStandIn t = false by simpa using this)

theorem proved : Rows.RatThereCardSaid :=
  Claim7.holds_tied_plain_at .later [] _ _ _ _ said (fun _ h => by cases h) (by kernel_rfl) (fun _ h => by cases h) ratThere_row_tie rfl ⟨rfl, rfl⟩ (by kernel_rfl) rfl plain (by kernel_rfl)
#print axioms proved
end Go.Proofs.YtajebceanonalaaGreatDoor.ratThere
