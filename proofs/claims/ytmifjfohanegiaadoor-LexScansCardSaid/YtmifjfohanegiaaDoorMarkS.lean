/-
  The marks of texts and tokens.
-/
import Derived.Test.YtmifjfohanegiaaDoorFltE
import Derived.Test.YtmifjfohanegiaaDoorCalm
import Derived.Test.YtmifjfohanegiaaDoorLexG
import Derived.Test.YtmifjfohanegiaaDoorBaseC
import Derived.Test.YtmifjfohanegiaaDoorByteK
import Derived.BigQuiet

namespace Go.Proofs.YtmifjfohanegiaaDoor
set_option linter.unusedVariables false
open Go.RowKit Go.Extern.Stop Go.Stop Go.Extern

theorem flTypeOf (v : Value) (w : World) : (ReflectliteType.typeOf #[.iface 44 v]).run Tryd.prog w = .ok (.iface 100 (.agg #[.pointer (some ⟨4, 44, none⟩)])) w := by kernel_rfl
theorem flAssignable (w : World) : (ReflectliteType.relation "AssignableTo" ReflectliteType.assignableTo #[.agg #[.pointer (some ⟨4, 44, none⟩)], .iface 100 (.agg #[.pointer (some ⟨4, 44, none⟩)])]).run Tryd.prog w = .ok (.bool true) w := by kernel_rfl
theorem flValueOf (m l c : Int) (w : World) : (ReflectliteValue.unpack (.iface 44 (.agg #[.int .i64 m, .int .i64 l, .int .i64 c]))).run Tryd.prog w
    = .ok (.agg #[.pointer (some ⟨4, 44, none⟩), .pointer (some ⟨w.heap.size, 0, none⟩), .int .u64 153]) (w.alloc (.cells #[.int .i64 m, .int .i64 l, .int .i64 c] 44)) := by kernel_rfl
theorem flElemOf (w : World) : (Rtype.elem? 54).run Tryd.prog w = .ok (some 44) w := by kernel_rfl
theorem flMk (p : Addr) (w : World) : (ReflectliteValue.mk 44 p ReflectliteValue.flagAddr).run Tryd.prog w = .ok (.agg #[.pointer (some ⟨4, 44, none⟩), .pointer (some p), .int .u64 409]) w := by kernel_rfl
theorem flElemV (a p : Addr) (W : World) (ha : W.cell? a = some (.pointer (some p))) :
    (ReflectliteValue.method (ReflectliteValue.valueError "reflectlite.Value.Elem" 0) ReflectliteValue.elem #[.agg #[.pointer (some ⟨4, 54, none⟩), .pointer (some a), .int .u64 150]]).run Tryd.prog W
      = .ok (.agg #[.pointer (some ⟨4, 44, none⟩), .pointer (some p), .int .u64 409]) W := by
  rw [asrlm]
  simp only [Sem.run_bind, asParts, Result.andThen]
  simp [ReflectliteValue.elem, loadVar, isAgg, underlying, Tryd.underlying54, ha, Result.andThen, flElemOf, flMk]
theorem flParts1 (a : Addr) (w : World) : (ReflectliteValue.parts (.agg #[.pointer (some ⟨4, 44, none⟩), .pointer (some a), .int .u64 409])).run Tryd.prog w = .ok (some (44, a, 409)) w := by kernel_rfl
theorem flParts2 (a : Addr) (w : World) : (ReflectliteValue.parts (.agg #[.pointer (some ⟨4, 44, none⟩), .pointer (some a), .int .u64 153])).run Tryd.prog w = .ok (some (44, a, 153)) w := by kernel_rfl
theorem flDirect (w : World) : (Rtype.directlyAssignable 44 44).run Tryd.prog w = .ok true w := by kernel_rfl
theorem flSize (w : World) : (sizeOf 44).run Tryd.prog w = .ok 3 w := by kernel_rfl
theorem flAgg (w : World) : (isAgg 44).run Tryd.prog w = .ok true w := by kernel_rfl
theorem flRls (v x : Value) : ReflectliteValue.set #[v, x] = (do
    let (some (dst, a, fl), some (src, b, _)) := (← ReflectliteValue.parts v, ← ReflectliteValue.parts x)
      | unsupported (.noEntry "extern/(internal/reflectlite.Value).Set.zeroValue")
    if fl / ReflectliteValue.flagAddr % 2 == 0 then unsupported (.noEntry "extern/(internal/reflectlite.Value).Set.unaddressable")
    let val ← loadVar src b
    if ← Rtype.directlyAssignable dst src then storeVar dst a val
    else if ← Rtype.implements dst src then
      if (← Rtype.kind src) == 20 then
        match val with
        | .nilIface => unsupported (.noEntry "extern/reflectlite: a nil value of one interface type handed on as a value of another")
        | _ => storeVar dst a val
      else storeVar dst a (.iface src val)
    else panicString ("reflectlite.Set: value of type " ++ (← Rtype.spelt src) ++ " is not assignable to type " ++ (← Rtype.spelt dst))
    pure (.tuple #[])) := rfl
theorem flLoad (b : Nat) (x y z : Value) (W : World) (hb : Blk W b #[x, y, z]) : (loadVar 44 ⟨b, 0, none⟩).run Tryd.prog W = .ok (.agg #[x, y, z]) W := by
  obtain ⟨b0, b1, b2, _, _, _⟩ := hb.three
  unfold loadVar
  simp only [Sem.run_bind, flAgg, flSize, Result.andThen, if_true]
  simp [loadCells, loadCellsFrom, Addr.add, b0, b1, b2, Result.andThen]
theorem flStore (t : Nat) (x y z o0 o1 o2 : Value) (h0 : x.oneCell' = true) (h1 : y.oneCell' = true) (h2 : z.oneCell' = true) (W : World) (ht : Blk W t #[o0, o1, o2]) :
    (storeVar 44 ⟨t, 0, none⟩ (.agg #[x, y, z])).run Tryd.prog W = .ok () (((W.setCell ⟨t, 0, none⟩ x).setCell ⟨t, 1, none⟩ y).setCell ⟨t, 2, none⟩ z) := by
  obtain ⟨b0, b1, b2, f0, f1, f2⟩ := ht.three
  obtain ⟨c0, c1, c2, g0, g1, g2⟩ := (ht.st 0 x).three
  obtain ⟨d0, d1, d2, e0, e1, e2⟩ := ((ht.st 0 x).st 1 y).three
  unfold storeVar
  simp only [Sem.run_bind, flSize, Result.andThen]
  simp [Value.cells, storeCells, Addr.add, Result.andThen]
  rw [run_store Tryd.prog W ⟨t, 0, none⟩ _ _ h0]
  simp [b0, f0]
  rw [run_store Tryd.prog _ ⟨t, 1, none⟩ _ _ h1]
  simp [c1, g1]
  rw [run_store Tryd.prog _ ⟨t, 2, none⟩ _ _ h2]
  simp [d2, e2]
theorem flSet (t b : Nat) (m l c : Int) (o0 o1 o2 : Value) (W : World) (ht : Blk W t #[o0, o1, o2]) (hb : Blk W b #[.int .i64 m, .int .i64 l, .int .i64 c]) :
    (ReflectliteValue.set #[.agg #[.pointer (some ⟨4, 44, none⟩), .pointer (some ⟨t, 0, none⟩), .int .u64 409], .agg #[.pointer (some ⟨4, 44, none⟩), .pointer (some ⟨b, 0, none⟩), .int .u64 153]]).run Tryd.prog W
      = .ok (.tuple #[]) (((W.setCell ⟨t, 0, none⟩ (.int .i64 m)).setCell ⟨t, 1, none⟩ (.int .i64 l)).setCell ⟨t, 2, none⟩ (.int .i64 c)) := by
  rw [flRls]
  simp only [Sem.run_bind, flParts1, flParts2, Result.andThen]
  simp [ReflectliteValue.flagAddr, flLoad b _ _ _ W hb, flDirect, flStore t (.int .i64 m) (.int .i64 l) (.int .i64 c) o0 o1 o2 rfl rfl rfl W ht, Result.andThen]

set_option maxRecDepth 100000 in
set_option maxHeartbeats 4000000 in
theorem as_flt (m l c : Int) (t : Nat) (o0 o1 o2 : Value) (w : World) (ht : Blk w t #[o0, o1, o2]) (hg : w.cell? ⟨0, 0, none⟩ = some (.iface 100 (.agg #[.pointer (some ⟨4, 24, none⟩)]))) :
    Calls Tryd.prog 17 #[faultV m l c, .iface 54 (.pointer (some ⟨t, 0, none⟩))] w fun e w' => e = .returned (.bool true) ∧ Blk w' t #[.int .i64 m, .int .i64 l, .int .i64 c] ∧ (∀ B, B ≤ t → Below B w w') := by
  have h6 := @run_callFunc_extern Tryd.prog 40 _ (fun args => ReflectliteValue.unpack (args.getD 0 (.tuple #[]))) Tryd.func40 (by kernel_rfl) (by kernel_rfl) (by kernel_rfl) (by kernel_rfl)
  have h7 := @run_callFunc_extern Tryd.prog 41 _ (ReflectliteValue.methodAny (ReflectliteValue.valueError "reflectlite.Value.Type" 0) (fun t _ _ _ => ReflectliteType.toType t)) Tryd.func41 (by kernel_rfl) (by kernel_rfl) (by kernel_rfl) (by kernel_rfl)
  have h8 := @run_callFunc_extern Tryd.prog 42 _ (ReflectliteValue.method (ReflectliteValue.valueError "reflectlite.Value.IsNil" 0) ReflectliteValue.isNil) Tryd.func42 (by kernel_rfl) (by kernel_rfl) (by kernel_rfl) (by kernel_rfl)
  have h27 := @run_callFunc_extern Tryd.prog 87 _ (ReflectliteType.abiMethod fun t => do pure (.int .u8 (← Rtype.kind t))) Tryd.func87 (by kernel_rfl) (by kernel_rfl) (by kernel_rfl) (by kernel_rfl)
  have h37 := @run_callFunc_extern Tryd.prog 99 _ (ReflectliteType.method ReflectliteType.elem) Tryd.func99 (by kernel_rfl) (by kernel_rfl) (by kernel_rfl) (by kernel_rfl)
  have h38 := @run_callFunc_extern Tryd.prog 100 _ (ReflectliteType.relation "Implements" ReflectliteType.implements_) Tryd.func100 (by kernel_rfl) (by kernel_rfl) (by kernel_rfl) (by kernel_rfl)
  have h10 := @run_callFunc_extern Tryd.prog 53 _ ReflectliteType.typeOf Tryd.func53 (by kernel_rfl) (by kernel_rfl) (by kernel_rfl) (by kernel_rfl)
  have h35 := @run_callFunc_extern Tryd.prog 97 _ (ReflectliteType.relation "AssignableTo" ReflectliteType.assignableTo) Tryd.func97 (by kernel_rfl) (by kernel_rfl) (by kernel_rfl) (by kernel_rfl)
  have h11 := @run_callFunc_extern Tryd.prog 55 _ (ReflectliteValue.method (ReflectliteValue.valueError "reflectlite.Value.Elem" 0) ReflectliteValue.elem) Tryd.func55 (by kernel_rfl) (by kernel_rfl) (by kernel_rfl) (by kernel_rfl)
  have h12 := @run_callFunc_extern Tryd.prog 56 _ ReflectliteValue.set Tryd.func56 (by kernel_rfl) (by kernel_rfl) (by kernel_rfl) (by kernel_rfl)
  have tO := flTypeOf
  have mA := asMethodAssignable
  have a25 := flAssignable
  have v25 := flValueOf
  have f6 := asValueOf
  have f7 := asType
  have mK := asMethodKind
  have mE := asMethodElem
  have mI := asMethodImplements
  have k27 := asKindP
  have k25 := asKindF
  have e27 := asElem
  have i25 := asImplements
  have nA := noAsE
  have uE := noUnwrapE
  have vE := noUnwrapsE
  have n8 := asIsNil ⟨w.heap.size, 0, none⟩ ⟨t, 0, none⟩ ((w.alloc (.cells #[.pointer (some ⟨t, 0, none⟩)] 54)).alloc (.cells #[.pointer (some ⟨4, 54, none⟩), .pointer (some ⟨w.heap.size, 0, none⟩), .int .u64 150] 81)) (by simp)
  have hlt : 0 < w.heap.size := World.block_lt_of_cell? w _ hg
  have hg2 : ((w.alloc (.cells #[.pointer (some ⟨t, 0, none⟩)] 54)).alloc (.cells #[.pointer (some ⟨4, 54, none⟩), .pointer (some ⟨w.heap.size, 0, none⟩), .int .u64 150] 81)).cell? ⟨0, 0, none⟩ = some (.iface 100 (.agg #[.pointer (some ⟨4, 24, none⟩)])) := by
    rw [World.cell?_alloc_lt _ _ ⟨0, 0, none⟩ (by first | (simp; done) | (simp; omega)), World.cell?_alloc_lt _ _ ⟨0, 0, none⟩ hlt]; exact hg
  have htl : t < w.heap.size := ht.lt
  have el := flElemV ⟨w.heap.size, 0, none⟩ ⟨t, 0, none⟩ (((w.alloc (.cells #[.pointer (some ⟨t, 0, none⟩)] 54)).alloc (.cells #[.pointer (some ⟨4, 54, none⟩), .pointer (some ⟨w.heap.size, 0, none⟩), .int .u64 150] 81)).alloc (.cells #[.pointer (some ⟨4, 54, none⟩), .pointer (some ⟨w.heap.size, 0, none⟩), .int .u64 150] 81)) (by rw [World.cell?_alloc_lt _ _ ⟨w.heap.size, 0, none⟩ (by simp; omega)]; simp)
  have hblk : Blk ((((w.alloc (.cells #[.pointer (some ⟨t, 0, none⟩)] 54)).alloc (.cells #[.pointer (some ⟨4, 54, none⟩), .pointer (some ⟨w.heap.size, 0, none⟩), .int .u64 150] 81)).alloc (.cells #[.pointer (some ⟨4, 54, none⟩), .pointer (some ⟨w.heap.size, 0, none⟩), .int .u64 150] 81)).alloc (.cells #[.int .i64 m, .int .i64 l, .int .i64 c] 44)) t #[o0, o1, o2] := ((((ht.alloc _).alloc _).alloc _).alloc _)
  have st := flSet t (w.heap.size + 1 + 1 + 1) m l c o0 o1 o2 ((((w.alloc (.cells #[.pointer (some ⟨t, 0, none⟩)] 54)).alloc (.cells #[.pointer (some ⟨4, 54, none⟩), .pointer (some ⟨w.heap.size, 0, none⟩), .int .u64 150] 81)).alloc (.cells #[.pointer (some ⟨4, 54, none⟩), .pointer (some ⟨w.heap.size, 0, none⟩), .int .u64 150] 81)).alloc (.cells #[.int .i64 m, .int .i64 l, .int .i64 c] 44)) hblk (by have := Blk.new (((w.alloc (.cells #[.pointer (some ⟨t, 0, none⟩)] 54)).alloc (.cells #[.pointer (some ⟨4, 54, none⟩), .pointer (some ⟨w.heap.size, 0, none⟩), .int .u64 150] 81)).alloc (.cells #[.pointer (some ⟨4, 54, none⟩), .pointer (some ⟨w.heap.size, 0, none⟩), .int .u64 150] 81)) #[.int .i64 m, .int .i64 l, .int .i64 c] 44; rw [show (((w.alloc (.cells #[.pointer (some ⟨t, 0, none⟩)] 54)).alloc (.cells #[.pointer (some ⟨4, 54, none⟩), .pointer (some ⟨w.heap.size, 0, none⟩), .int .u64 150] 81)).alloc (.cells #[.pointer (some ⟨4, 54, none⟩), .pointer (some ⟨w.heap.size, 0, none⟩), .int .u64 150] 81)).heap.size = w.heap.size + 1 + 1 + 1 by simp] at this; exact this)
  have hfin : Blk (((((((w.alloc (.cells #[.pointer (some ⟨t, 0, none⟩)] 54)).alloc (.cells #[.pointer (some ⟨4, 54, none⟩), .pointer (some ⟨w.heap.size, 0, none⟩), .int .u64 150] 81)).alloc (.cells #[.pointer (some ⟨4, 54, none⟩), .pointer (some ⟨w.heap.size, 0, none⟩), .int .u64 150] 81)).alloc (.cells #[.int .i64 m, .int .i64 l, .int .i64 c] 44)).setCell ⟨t, 0, none⟩ (.int .i64 m)).setCell ⟨t, 1, none⟩ (.int .i64 l)).setCell ⟨t, 2, none⟩ (.int .i64 c)) t #[.int .i64 m, .int .i64 l, .int .i64 c] := ((hblk.st 0 _).st 1 _).st 2 _
  have hbel : ∀ B, B ≤ t → Below B w (((((((w.alloc (.cells #[.pointer (some ⟨t, 0, none⟩)] 54)).alloc (.cells #[.pointer (some ⟨4, 54, none⟩), .pointer (some ⟨w.heap.size, 0, none⟩), .int .u64 150] 81)).alloc (.cells #[.pointer (some ⟨4, 54, none⟩), .pointer (some ⟨w.heap.size, 0, none⟩), .int .u64 150] 81)).alloc (.cells #[.int .i64 m, .int .i64 l, .int .i64 c] 44)).setCell ⟨t, 0, none⟩ (.int .i64 m)).setCell ⟨t, 1, none⟩ (.int .i64 l)).setCell ⟨t, 2, none⟩ (.int .i64 c)) := fun B hB =>
    (((((((Below.refl B w).alloc (by omega) _).alloc (by simp; omega) _).alloc (by simp; omega) _).alloc (by simp; omega) _).setCell (p := ⟨t, 0, none⟩) hB _).setCell (p := ⟨t, 1, none⟩) hB _).setCell (p := ⟨t, 2, none⟩) hB _
  have HF := Lib.hid hfin
  have HBE := Lib.hid hbel
  clear hfin hbel hblk ht
  unfold faultV
  go_enter Tryd.func17, Tryd.ntmps17
  go_wp2
  refine wp_loop_rounds 1 ?_
  rw [rounds_succ]
  go_wp2
  go_ret
  exact ⟨rfl, HF.out, HBE.out⟩
end Go.Proofs.YtmifjfohanegiaaDoor

namespace Go.Proofs.YtmifjfohanegiaaDoor
set_option linter.unusedVariables false
open Go.RowKit

set_option maxRecDepth 100000 in
set_option maxHeartbeats 4000000 in
theorem place_flt (m l c : Int) (h1 : 1 ≤ m) (h2 : m ≤ 26) (w : World) (hg : LaidT w) : Calls Tryd.prog 18 #[faultV m l c] w fun e w' => e = .returned (.tuple #[.int .i64 l, .int .i64 c, .bool true]) ∧ Below w.heap.size w w' := by
  have cN := num_flt l c m h1 h2
  have cA := fun t o0 o1 o2 w hk hg => as_flt m l c t o0 o1 o2 w hk hg
  unfold faultV at *
  have HK0 := Lib.hid (Blk.new w #[.int .i64 0, .int .i64 0, .int .i64 0] 44)
  have HB0 := Lib.hid ((Below.refl w.heap.size w).alloc (Nat.le_refl _) (.cells #[.int .i64 0, .int .i64 0, .int .i64 0] 44))
  have HG := Lib.hid (LaidT.keep hg HB0.out)
  clear hg
  go_enter Tryd.func18, Tryd.ntmps18
  go_wp2_with fail
  generalize w.alloc (.cells #[.int .i64 0, .int .i64 0, .int .i64 0] 44) = w1 at *
  with_reducible refine (cA _ _ _ _ _ HK0.out ?_).mono ?_
  · exact HG.out
  rintro e w2 ⟨rfl, hk, hb⟩
  have HB := Lib.hid (HB0.out.trans (hb _ (Nat.le_refl _)))
  obtain ⟨r0, r1, r2, f0, f1, f2⟩ := hk.three
  clear hb hk HK0 HB0 HG cA
  go_wp2_with fail
  have l0 := fun x : Later w2 => Later.cell r0 x
  have l1 := fun x : Later w2 => Later.cell r1 x
  have l2 := fun x : Later w2 => Later.cell r2 x
  refine wp_region_later0 (by kernel_rfl) (by kernel_rfl) ?_
  repeat (go_big_quiet_step ((first | (go_at_call 16; with_reducible exact Later.made (cN _)))))
  refine wpQuiet_nil ?_
  rintro _ ⟨x, rfl⟩
  have HB3 := Lib.hid (bstep HB.out x.below (Nat.le_refl _))
  clear l0 l1 l2 r0 r1 r2 f0 f1 f2
  generalize x.w = w3 at *
  go_wp2_with fail
  exact bodyPost_ret (v := .tuple #[.int .i64 l, .int .i64 c, .bool true]) (by simp [results, Tryd.results18, go_sem]) rfl ⟨rfl, HB3.out⟩

set_option maxRecDepth 100000 in
set_option maxHeartbeats 4000000 in
theorem at_flt (m l c : Int) (h1 : 1 ≤ m) (h2 : m ≤ 26) (w : World) (hg : LaidT w) : Calls Tryd.prog 8 #[faultV m l c, .int .i64 m, .int .i64 l, .int .i64 c] w fun e w' => e = .returned (.bool true) ∧ Below w.heap.size w w' := by
  have cN := num_flt l c m h1 h2
  have cP := place_flt m l c h1 h2 w hg
  have hm : (m == 0) = false := by rw [beq_eq_false_iff_ne]; omega
  clear hg
  unfold faultV at *
  go_enter Tryd.func8, Tryd.ntmps8
  go_wp2_with fail
  with_reducible refine cP.mono ?_
  rintro e w1 ⟨rfl, hb⟩
  have HB := Lib.hid hb
  clear hb cP
  go_wp2_with fail
  with_reducible refine (cN _).mono ?_
  rintro e w2 ⟨rfl, hb⟩
  have HB2 := Lib.hid (bstep HB.out hb (Nat.le_refl _))
  clear hb cN
  go_wp2_with fail
  go_ret
  exact ⟨by simp, HB2.out⟩
end Go.Proofs.YtmifjfohanegiaaDoor

namespace Go.Proofs.YtmifjfohanegiaaDoor
set_option linter.unusedVariables false
open Go.RowKit Go.Shelf

theorem tok_at {w : World} {a : Option Addr} {cap : Nat} {l : List TokD} (h : SlOf w enTok 4 a cap l) {k : Nat} (hk : k < l.length) :
    ∃ b o, a = some ⟨b, o, none⟩ ∧ b < w.heap.size ∧ w.cell? ⟨b, o + k * 4, none⟩ = some (.int .i64 l[k].kind) ∧ w.cell? ⟨b, o + k * 4 + 1, none⟩ = some (.string ⟨l[k].text.toArray⟩) ∧ w.cell? ⟨b, o + k * 4 + 2, none⟩ = some (.int .i64 l[k].line) ∧ w.cell? ⟨b, o + k * 4 + 3, none⟩ = some (.int .i64 l[k].col) := by
  obtain ⟨b, o, rfl, hb, hc⟩ := SlOf.cells h enTok_len (by decide) hk
  exact ⟨b, o, rfl, hb, hc 0 (by decide), by rw [Nat.add_assoc]; exact hc 1 (by decide), by rw [Nat.add_assoc]; exact hc 2 (by decide), by rw [Nat.add_assoc]; exact hc 3 (by decide)⟩

set_option maxRecDepth 100000 in
set_option maxHeartbeats 2000000 in
theorem sameTokens_any (l : List TokD) (n m : Nat) (hn : n = l.length) (hm : m = l.length) (a b : Option Addr) (p q : Nat) (w : World) (hs : SlOf w enTok 4 a p l) (ht : SlOf w enTok 4 b q l) :
    Calls Tryd.prog 6 #[.slice a n p, .slice b m q] w fun e w' => e = .returned (.bool true) ∧ Below w.heap.size w w' := by
  subst hm
  subst hn
  have h1 := hs.len
  go_enter Tryd.func6, Tryd.ntmps6
  go_wp2_with fail
  go_loopw [5] (fun i wr => ∃ k : Nat, k ≤ l.length ∧ i = .int .i64 k ∧ Below w.heap.size w wr) (fun i _ => l.length - (intOf i).toNat)
  case atStart => exact ⟨0, Nat.zero_le _, rfl, Below.refl _ _⟩
  case round =>
    obtain ⟨k, hk, rfl, hbel⟩ := hrel
    by_cases hlt : k < l.length
    · obtain ⟨ba, oa, rfl, hba, hc0, hc1, hc2, hc3⟩ := tok_at (hs.keep hbel (Nat.le_refl _)) hlt
      obtain ⟨bb, ob, rfl, hbb, hd0, hd1, hd2, hd3⟩ := tok_at (ht.keep hbel (Nat.le_refl _)) hlt
      generalize l[k].kind = x0 at *
      generalize (⟨l[k].text.toArray⟩ : ByteArray) = x1 at *
      generalize l[k].line = x2 at *
      generalize l[k].col = x3 at *
      go_wp2_with fail
      go_quiet (fail)
      go_wp2_with fail
      go_roundw
      case rel => exact ⟨k + 1, by omega, by go_num, hbel.trans ⟨rfl, rfl, rfl, Nat.le_refl _, fun _ _ => rfl⟩⟩
      case measure => simp [intOf]; omega
    · have : k = l.length := by omega
      subst this
      go_wp2_with fail
      go_ret
      exact ⟨rfl, hbel⟩

def workS : List UInt8 := [97, 32, 56, 64, 48, 43]
def workT : List TokD := [⟨1, [97], 1, 1⟩, ⟨2, [56], 1, 3⟩, ⟨4, [64, 48, 43], 1, 4⟩, ⟨0, [], 1, 7⟩]
theorem work_scan : scanL workS = .good workT := by kernel_rfl

end Go.Proofs.YtmifjfohanegiaaDoor

namespace Go.Proofs.YtmifjfohanegiaaDoor
set_option linter.unusedVariables false
open Go.RowKit Go.Shelf

def mkText (k i : Nat) : List UInt8 := [35, UInt8.ofNat k, UInt8.ofNat (k / 256), UInt8.ofNat i, UInt8.ofNat (i / 256)]
theorem conv_byte (n : Nat) : IntKind.u8.wrap (n : Int) = (((UInt8.ofNat n).toNat : Nat) : Int) := by
  unfold IntKind.wrap
  simp [IntKind.bits, IntKind.signed]

set_option maxRecDepth 100000 in
set_option maxHeartbeats 1000000 in
theorem markText_any (k i : Nat) (hk : k ≤ 1000000) (hi : i ≤ 281474976710656) (w : World) :
    Calls Tryd.prog 44 #[.int .i64 k, .int .i64 i] w fun e w' => e = .returned (.string ⟨(mkText k i).toArray⟩) ∧ Below w.heap.size w w' := by
  have e1 : (k : Int) / 256 = ((k / 256 : Nat) : Int) := by omega
  have e2 : (i : Int) / 256 = ((i / 256 : Nat) : Int) := by omega
  have c1 := conv_byte k
  have c2 := conv_byte (k / 256)
  have c3 := conv_byte i
  have c4 := conv_byte (i / 256)
  unfold mkText at *
  generalize k / 256 = k2 at *
  generalize i / 256 = i2 at *
  generalize UInt8.ofNat k = b1 at *
  generalize UInt8.ofNat k2 = b2 at *
  generalize UInt8.ofNat i = b3 at *
  generalize UInt8.ofNat i2 = b4 at *
  have hs := SlOf.lit w enByte 1 (fun _ => rfl) [35, b1, b2, b3, b4] #[.int .u8 35, .int .u8 b1.toNat, .int .u8 b2.toNat, .int .u8 b3.toNat, .int .u8 b4.toNat] 5 5 rfl rfl (by decide)
  have hconv : (convert 96 9 (.slice (some ⟨w.heap.size, 0, none⟩) 5 5)).run Tryd.prog (w.alloc (.cells #[.int .u8 35, .int .u8 b1.toNat, .int .u8 b2.toNat, .int .u8 b3.toNat, .int .u8 b4.toNat] 5)) = .ok (.string ⟨#[35, b1, b2, b3, b4]⟩) (w.alloc (.cells #[.int .u8 35, .int .u8 b1.toNat, .int .u8 b2.toNat, .int .u8 b3.toNat, .int .u8 b4.toNat] 5)) :=
    run_convert_bytes_back _ 96 9 5 ⟨w.heap.size, 0, none⟩ 5 [35, b1, b2, b3, b4] Tryd.underlying96 Tryd.underlying5 Tryd.underlying9 fun j hj => by
      obtain ⟨b, o, e1, _, hc⟩ := SlOf.cell1 hs (fun x : UInt8 => .int .u8 (x.toNat : Int)) (fun _ => rfl) hj
      cases e1
      rw [Addr.add_lit]
      exact hc
  have HB := Lib.hid ((Below.refl w.heap.size w).alloc (Nat.le_refl _) (.cells #[.int .u8 35, .int .u8 b1.toNat, .int .u8 b2.toNat, .int .u8 b3.toNat, .int .u8 b4.toNat] 5))
  clear hs
  go_enter Tryd.func44, Tryd.ntmps44
  go_wp2_with fail
  go_ret
  exact ⟨rfl, HB.out⟩

set_option maxRecDepth 100000 in
def mkTok (k i : Nat) : TokD := ⟨-7, mkText k i, 0, 0⟩
set_option maxRecDepth 100000 in
set_option maxHeartbeats 1000000 in
theorem markTokens_any (k i : Nat) (hk : k ≤ 1000000) (hi : i ≤ 281474976710656) (w : World) :
    Calls Tryd.prog 19 #[.int .i64 k, .int .i64 i] w fun e w' => e = .returned (.agg #[.int .i64 (-7), .string ⟨(mkText k i).toArray⟩, .int .i64 0, .int .i64 0]) ∧ Below w.heap.size w w' := by
  have cm := fun W => markText_any k i hk hi W
  generalize mkText k i = t at *
  have hb0 : Below w.heap.size w (w.alloc (.cells #[.int .i64 0, .string ⟨#[]⟩, .int .i64 0, .int .i64 0] 39)) := (Below.refl _ _).alloc (Nat.le_refl _) _
  have HB0 := Lib.hid hb0
  have HK0 := Lib.hid (Blk.new w #[.int .i64 0, .string ⟨#[]⟩, .int .i64 0, .int .i64 0] 39)
  clear hb0
  go_enter Tryd.func19, Tryd.ntmps19
  go_wp2_with fail
  with_reducible refine (cm _).mono ?_
  rintro e w1 ⟨rfl, hb⟩
  generalize w.alloc (.cells #[.int .i64 0, .string ⟨#[]⟩, .int .i64 0, .int .i64 0] 39) = W at *
  have HB2 := Lib.hid (bstep HB0.out hb (Nat.le_refl _))
  obtain ⟨⟨r0, r1, r2, r3⟩, f0, f1, f2, f3⟩ := (HK0.out.keep hb (Nat.le_refl _)).four
  clear hb cm
  go_wp2_with fail
  exact bodyPost_ret (v := .agg #[.int .i64 (-7), .string ⟨t.toArray⟩, .int .i64 0, .int .i64 0]) (by simp [results, Tryd.results19, go_sem, r0, r1, r2, r3]) rfl ⟨rfl, below_set4 HB2.out (Nat.le_refl _) _ _ _ _⟩
end Go.Proofs.YtmifjfohanegiaaDoor
