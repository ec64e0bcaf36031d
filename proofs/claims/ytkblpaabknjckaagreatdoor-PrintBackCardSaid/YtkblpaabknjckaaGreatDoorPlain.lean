/-
  Plain of the kit at nil and at the numbers of package api.
-/
import Derived.Test.YtkblpaabknjckaaGreatDoorBaseD
import Derived.Test.YtkblpaabknjckaaGreatDoorCalm
import Derived.WalkKit
import Derived.LaidEql
import Derived.Stop.Asserts
import Derived.RowKitTokens
import Derived.Test.YtkblpaabknjckaaGreatDoorRatD
set_option maxHeartbeats 128000000
set_option linter.unusedVariables false
namespace Go.Proofs.YtkblpaabknjckaaGreatDoor
open Go.Proofs.Tryz
open Go.RowKit Go.Extern.Stop Go.Stop Go.Extern
theorem as_nil (t:Value) (w:World) :
  Calls prog 17 #[.nilIface,t] w fun e w'=>e=.returned (.bool false)∧w' = w:=by
 go_enter func17,ntmps17
 go_wp2
 go_ret;exact⟨rfl,rfl⟩
theorem asValueOf (t:Addr) (w:World):(ReflectliteValue.unpack (.iface 58 (.pointer (some t)))).run prog w
  = .ok (.agg #[.pointer (some ⟨11,58,none⟩),.pointer (some ⟨w.heap.size,0,none⟩),.int .u64 150]) (w.alloc (.cells #[.pointer (some t)] 58)):=by kernel_rfl
theorem asType (a : Addr) (w : World) : (ReflectliteValue.methodAny (ReflectliteValue.valueError "reflectlite.Value.Type" 0) (fun t _ _ _ => ReflectliteType.toType t) #[.agg #[.pointer (some ⟨11, 58, none⟩), .pointer (some a), .int .u64 150]]).run prog w
  = .ok (.iface 146 (.agg #[.pointer (some ⟨11,58,none⟩)])) w:=by kernel_rfl
theorem asMethodKind (fuel : Nat) (h : Value) (w : World) : (Go.method (fuel + 2) 146 (.agg #[h]) "Kind").run prog w = .ok (247, h) w := by kernel_rfl
theorem asKindP (w:World):((ReflectliteType.abiMethod fun t=>(fun a:Nat=>Value.int IntKind.u8 (a:Int)) <$> Rtype.kind t) #[.pointer (some ⟨11,58,none⟩)]).run prog w=.ok (.int .u8 22) w:=by kernel_rfl
theorem asKindF (w:World):((ReflectliteType.abiMethod fun t=>(fun a:Nat=>Value.int IntKind.u8 (a:Int)) <$> Rtype.kind t) #[.pointer (some ⟨11,52,none⟩)]).run prog w=.ok (.int .u8 25) w:=by kernel_rfl
theorem asrlm (z:Sem Value) (f:TypeId→Addr→Nat→Nat→Sem Value) (v:Value) :
  ReflectliteValue.method z f #[v]=(do match ← ReflectliteValue.parts v with|none=>z|some (t,a,fl)=>f t a fl (fl % 32)):=rfl
theorem asParts (a:Addr) (w:World):(ReflectliteValue.parts (.agg #[.pointer (some ⟨11,58,none⟩),.pointer (some a),.int .u64 150])).run prog w=.ok (some (58,a,150)) w:=by kernel_rfl
theorem asIsNil (a p:Addr) (W:World) (ha:W.cell? a=some (.pointer (some p))) :
  (ReflectliteValue.method (ReflectliteValue.valueError "reflectlite.Value.IsNil" 0) ReflectliteValue.isNil #[.agg #[.pointer (some ⟨11, 58, none⟩), .pointer (some a), .int .u64 150]]).run prog W = .ok (.bool false) W := by
 rw[asrlm];simp only[Sem.run_bind,asParts,Result.andThen];simp[ReflectliteValue.isNil,loadVar,isAgg,underlying,underlying58,ha,Result.andThen]
theorem asMethodElem (fuel : Nat) (h : Value) (w : World) : (Go.method (fuel + 1) 146 (.agg #[h]) "Elem").run prog w = .ok (263, .agg #[h]) w := by kernel_rfl
theorem asMethodImplements (fuel : Nat) (h : Value) (w : World) : (Go.method (fuel + 1) 146 (.agg #[h]) "Implements").run prog w = .ok (264, .agg #[h]) w := by kernel_rfl
theorem asMethodAssignable (fuel : Nat) (h : Value) (w : World) : (Go.method (fuel + 1) 146 (.agg #[h]) "AssignableTo").run prog w = .ok (261, .agg #[h]) w := by kernel_rfl
theorem asElem (w:World):(ReflectliteType.method ReflectliteType.elem #[.agg #[.pointer (some ⟨11,58,none⟩)]]).run prog w=.ok (.iface 146 (.agg #[.pointer (some ⟨11,52,none⟩)])) w:=by kernel_rfl
theorem asImplements (w : World) : (ReflectliteType.relation "Implements" ReflectliteType.implements_ #[.agg #[.pointer (some ⟨11, 52, none⟩)], .iface 146 (.agg #[.pointer (some ⟨11, 25, none⟩)])]).run prog w = .ok (.bool true) w := by kernel_rfl
theorem asTypeOf (v:Value) (w:World):(ReflectliteType.typeOf #[.iface 50 v]).run prog w=.ok (.iface 146 (.agg #[.pointer (some ⟨11,50,none⟩)])) w:=by kernel_rfl
theorem asAssignable (w : World) : (ReflectliteType.relation "AssignableTo" ReflectliteType.assignableTo #[.agg #[.pointer (some ⟨11, 50, none⟩)], .iface 146 (.agg #[.pointer (some ⟨11, 52, none⟩)])]).run prog w = .ok (.bool false) w := by kernel_rfl
theorem noAsE (v:Value) (xT:TypeId) (w:World):(Instr.typeAssert (.iface 50 v) xT 150 true).run prog w=.ok (.tuple #[.nilIface,.bool false]) w:=run_typeAssert_lacksB underlying150 (by kernel_rfl) (by kernel_rfl) v xT w
set_option maxRecDepth 100000 in theorem as_errno (n : Int) (t : Addr) (w : World) (hg : w.cell? ⟨0, 0, none⟩ = some (.iface 146 (.agg #[.pointer (some ⟨11, 25, none⟩)]))) :
  Calls prog 17 #[.iface 50 (.int .i64 n),.iface 58 (.pointer (some t))] w fun e w'=>e=.returned (.bool false)∧Below w.heap.size w w':=by
 have h6:=@run_callFunc_extern prog 33 _ (fun args=>ReflectliteValue.unpack (args.getD 0 (.tuple #[]))) func33 (by kernel_rfl) (by kernel_rfl) (by kernel_rfl) (by kernel_rfl);have h7 := @run_callFunc_extern prog 34 _ (ReflectliteValue.methodAny (ReflectliteValue.valueError "reflectlite.Value.Type" 0) (fun t _ _ _ => ReflectliteType.toType t)) func34 (by kernel_rfl) (by kernel_rfl) (by kernel_rfl) (by kernel_rfl)
 have h8 := @run_callFunc_extern prog 35 _ (ReflectliteValue.method (ReflectliteValue.valueError "reflectlite.Value.IsNil" 0) ReflectliteValue.isNil) func35 (by kernel_rfl) (by kernel_rfl) (by kernel_rfl) (by kernel_rfl)
 have h27:=@run_callFunc_extern prog 247 _ (ReflectliteType.abiMethod fun t=>do pure (.int .u8 (← Rtype.kind t))) func247 (by kernel_rfl) (by kernel_rfl) (by kernel_rfl) (by kernel_rfl);have h37:=@run_callFunc_extern prog 263 _ (ReflectliteType.method ReflectliteType.elem) func263 (by kernel_rfl) (by kernel_rfl) (by kernel_rfl) (by kernel_rfl);have h38 := @run_callFunc_extern prog 264 _ (ReflectliteType.relation "Implements" ReflectliteType.implements_) func264 (by kernel_rfl) (by kernel_rfl) (by kernel_rfl) (by kernel_rfl)
 have h10:=@run_callFunc_extern prog 62 _ ReflectliteType.typeOf func62 (by kernel_rfl) (by kernel_rfl) (by kernel_rfl) (by kernel_rfl);have h35 := @run_callFunc_extern prog 261 _ (ReflectliteType.relation "AssignableTo" ReflectliteType.assignableTo) func261 (by kernel_rfl) (by kernel_rfl) (by kernel_rfl) (by kernel_rfl)
 have tO:=asTypeOf;have mA:=asMethodAssignable;have a25:=asAssignable;have f6:=asValueOf;have f7:=asType;have mK:=asMethodKind;have mE:=asMethodElem;have mI:=asMethodImplements;have k27:=asKindP;have k25:=asKindF;have e27:=asElem;have i25:=asImplements;have nA:=noAsE;have uE:=noUnwrapE;have vE:=noUnwrapsE;have n8:=asIsNil ⟨w.heap.size,0,none⟩ t ((w.alloc (.cells #[.pointer (some t)] 58)).alloc (.cells #[.pointer (some ⟨11,58,none⟩),.pointer (some ⟨w.heap.size,0,none⟩),.int .u64 150] 103)) (by simp);have hlt:0 < w.heap.size:=World.block_lt_of_cell? w _ hg;have hg2:((w.alloc (.cells #[.pointer (some t)] 58)).alloc (.cells #[.pointer (some ⟨11,58,none⟩),.pointer (some ⟨w.heap.size,0,none⟩),.int .u64 150] 103)).cell? ⟨0,0,none⟩=some (.iface 146 (.agg #[.pointer (some ⟨11,25,none⟩)])):=by
  rw[World.cell?_alloc_lt _ _ ⟨0,0,none⟩ (by first|(simp;done)|(simp;omega)),World.cell?_alloc_lt _ _ ⟨0,0,none⟩ hlt];exact hg
 go_enter func17,ntmps17
 go_wp2
 refine wp_loop_rounds 1 ?_;rw[rounds_succ];go_wp2
 go_ret;exact⟨rfl,((((Below.refl _ _).alloc lrf _).alloc (by simp) _).alloc (by simp;omega) _)⟩
open Go.RowKit
def LaidT (w:World):Prop:=w.cell? ⟨0,0,none⟩=some (.iface 146 (.agg #[.pointer (some ⟨11,25,none⟩)]))
theorem LaidT.keep {w w':World} (h:LaidT w) (hb:Below w.heap.size w w'):LaidT w':=cell_keep' h hb
set_option maxRecDepth 100000 in theorem plain_errno (m n : Int) (h1 : 1 ≤ m) (h2 : m ≤ 26) (w : World) (hg : LaidT w) : Calls prog 9 #[errV m, .int .i64 n] w fun e w' => e = .returned (.bool (decide (m = n))) ∧ Below w.heap.size w w' := by
 have c1:=num_errno m h1 h2;have HG:=Qh hg;clear hg;unfold errV;by_cases h:m=n
 ·subst h;go_enter func9,ntmps9
  go_wp2_with fail;with_reducible refine(c1 _).mono ?_
  rintro e w1 ⟨rfl,rfl⟩;go_wp2_with fail;with_reducible refine(as_errno m _ _ ?_).mono ?_
  ·exact HG.out.keep ((Below.refl _ _).alloc lrf _)
  rintro e w2 ⟨rfl,hb⟩;have HB:=Qh (((Below.refl _ _).alloc lrf _).trans (hb.mono (by simp)));clear hb;go_wp2_with fail;go_ret;exact⟨by simp,HB.out⟩
 ·have hz:(m == n)=false:=(by rw[beq_eq_false_iff_ne];exact h);rw[decide_eq_false h];go_enter func9,ntmps9
  go_wp2_with fail;with_reducible refine(c1 _).mono ?_
  rintro e w1 ⟨rfl,rfl⟩;go_wp2_with fail;go_ret;exact⟨rfl,(Below.refl _ _).alloc lrf _⟩
end Go.Proofs.YtkblpaabknjckaaGreatDoor
