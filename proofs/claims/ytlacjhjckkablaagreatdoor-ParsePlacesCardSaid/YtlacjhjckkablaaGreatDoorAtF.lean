/-
  busbarkit's Place and At at a fault of api, Plain at an error: contracts.
-/
import Derived.Test.YtlacjhjckkablaaGreatDoorBaseD
import Derived.Test.YtlacjhjckkablaaGreatDoorPlain
import Derived.Test.YtlacjhjckkablaaGreatDoorLexB
import Derived.Test.YtlacjhjckkablaaGreatDoorCalm
set_option maxHeartbeats 128000000
set_option linter.unusedVariables false
namespace Go.Proofs.YtlacjhjckkablaaGreatDoor
open Go.Proofs.Tryz
open Go.RowKit Go.Extern.Stop Go.Stop Go.Extern
theorem flMethodUnwrap (fuel : Nat) (v : Value) (w : World) : (Go.method (fuel + 1) 85 v "Unwrap").run prog w = .ok (274, v) w := by kernel_rfl
theorem noIsL (v:Value) (xT:TypeId) (w:World):(Instr.typeAssert (.iface 85 v) xT 276 true).run prog w=.ok (.tuple #[.nilIface,.bool false]) w:=run_typeAssert_lacksB underlying276 (by kernel_rfl) (by kernel_rfl) v xT w
theorem hasUnwrapL (v:Value) (xT:TypeId) (w:World):(Instr.typeAssert (.iface 85 v) xT 235 true).run prog w=.ok (.tuple #[.iface 85 v,.bool true]) w:=run_typeAssert_hasB underlying235 (by kernel_rfl) v xT w
theorem unwrapL (l c:Int) (m:Int) (w:World):Calls prog 274 #[.agg #[.int .i64 m,.int .i64 l,.int .i64 c]] w fun e w'=>e=.returned (errV m)∧Below w.heap.size w w':=by
 unfold errV;go_enter func274,ntmps274
 go_wp2
 go_ret;exact⟨rfl,(Below.refl _ _).alloc lrf _⟩
set_option maxRecDepth 100000 in theorem isin_flt (l c : Int) (m n : Int) (w : World) :
  Calls prog 140 #[.iface 85 (.agg #[.int .i64 m,.int .i64 l,.int .i64 c]),.iface 83 (.int .i64 n),.bool true] w fun e w'=>e=.returned (.bool (m == n))∧Below w.heap.size w w':=by
 have nF:=noIsL;have hF:=hasUnwrapL;have mU:=flMethodUnwrap;have nE:=noIsE;have uE:=noUnwrapE;have vE:=noUnwrapsE;have cu:=unwrapL l c m;unfold errV at cu;have hne:=fun (vx vy:Value) w=>run_eql_iface_types (P:=prog) 85 83 vx vy underlying24 (by decide) w
 have heq:=fun w=>Lib.run_eql_iface_int (P:=prog) w m n (k:=.i64) underlying24 (by kernel_rfl) underlying83
 obtain⟨b,hb⟩:∃ b,b=(m == n):=⟨_,rfl⟩
 rw[← hb]at heq ⊢;clear hb;cases b
 ·go_enter func140,ntmps140
  go_wp2
  refine wp_loop_rounds 2 ?_;rw[rounds_succ];go_wp2_with fail;with_reducible refine(cu _).mono ?_
  rintro e w1 ⟨rfl,hb⟩;have HB:=Qh hb;clear hb cu;go_wp2_with fail;rw[rounds_succ];go_wp2_with fail;go_ret;exact⟨rfl,HB.out⟩
 ·go_enter func140,ntmps140
  go_wp2
  refine wp_loop_rounds 2 ?_;rw[rounds_succ];go_wp2_with fail;with_reducible refine(cu _).mono ?_
  rintro e w1 ⟨rfl,hb⟩;have HB:=Qh hb;clear hb cu;go_wp2_with fail;rw[rounds_succ];go_wp2_with fail;go_ret;exact⟨rfl,HB.out⟩
set_option maxRecDepth 100000 in theorem is_flt (l c : Int) (m n : Int) (w : World) :
  Calls prog 87 #[.iface 85 (.agg #[.int .i64 m,.int .i64 l,.int .i64 c]),.iface 83 (.int .i64 n)] w fun e w'=>e=.returned (.bool (m == n))∧Below w.heap.size w w':=by
 have h8:=@run_callFunc_extern prog 117 _ Extern.ReflectliteType.typeOf func117 (by kernel_rfl) (by kernel_rfl) (by kernel_rfl) (by kernel_rfl);have h32 := @run_callFunc_extern prog 281 _ (Extern.ReflectliteType.method fun t => do Rtype.noPackHeld "Comparable" t; pure (.bool (← typeInfo t).comparable)) func281 (by kernel_rfl) (by kernel_rfl) (by kernel_rfl) (by kernel_rfl)
 have tT:=isTypeOf;have cT:=isComparable;have mR:=isMethodComparable;have ci:=isin_flt l c m n;generalize (m == n)=b at *;go_enter func87,ntmps87
 go_wp2_with fail;with_reducible refine(ci _).mono ?_
 rintro e w1 ⟨rfl,hb⟩;have HB:=Qh hb;clear hb ci h8 h32 tT cT mR;go_wp2_with fail;go_ret;exact⟨rfl,HB.out⟩
set_option maxRecDepth 100000 in theorem num_flt (l c : Int) (m : Int) (h1 : 1 ≤ m) (h2 : m ≤ 26) (w : World) : Calls prog 33 #[.iface 85 (.agg #[.int .i64 m, .int .i64 l, .int .i64 c])] w fun e w' => e = .returned (.int .i64 m) ∧ Below w.heap.size w w' := by
 have ci:=is_flt l c m;go_enter func33,ntmps33
 go_wp2_with fail;go_loopw [3,4] (fun v n wr=>∃ k:Nat,1≤k∧k≤27∧n=.int .i64 k∧foundAt m k v∧Below w.heap.size w wr) (fun _ n _=>27 - (intOf n).toNat)
 case atStart=>exact⟨1,by omega,by omega,rfl,by unfold foundAt;rw[if_pos (by omega)],Below.refl _ _⟩
 case round=>
  obtain⟨k,hk1,hk2,rfl,hv,hb0⟩:=hrel;unfold foundAt at hv;by_cases hlt:(k:Int)≤26
  ·by_cases hkm:(k:Int)=m
   ·have hb:(m == (k:Int))=true:=(by rw[beq_iff_eq];exact hkm.symm);rw[if_pos (by omega)]at hv;subst hv;have hc:=ci k;rw[hb]at hc;have HK:=Qh hkm;clear hkm hb ci;go_wp2_with fail;with_reducible refine(hc _).mono ?_
    rintro e w1 ⟨rfl,hb1⟩;have HB:=Qh (bstep hb0 hb1 lrf);clear hb0 hb1;go_wp2_with fail;go_roundw;case rel=>exact⟨k+1,by omega,by omega,by go_num,by unfold foundAt;rw[if_neg (by have:=HK.out;omega),HK.out],HB.out⟩
    case measure=>simp[intOf];omega
   ·have hb:(m == (k:Int))=false:=(by rw[beq_eq_false_iff_ne];exact fun h=>hkm h.symm);have hc:=ci k;rw[hb]at hc;by_cases hle:(k:Int)≤m
    ·rw[if_pos hle]at hv;subst hv;clear hb ci;go_wp2_with fail;with_reducible refine(hc _).mono ?_
     rintro e w1 ⟨rfl,hb1⟩;have HB:=Qh (bstep hb0 hb1 lrf);clear hb0 hb1;go_wp2_with fail;go_roundw;case rel=>exact⟨k+1,by omega,by omega,by go_num,by unfold foundAt;rw[if_pos (by omega)],HB.out⟩
     case measure=>simp[intOf];omega
    ·rw[if_neg hle]at hv;subst hv;clear hb ci;go_wp2_with fail;with_reducible refine(hc _).mono ?_
     rintro e w1 ⟨rfl,hb1⟩;have HB:=Qh (bstep hb0 hb1 lrf);clear hb0 hb1;go_wp2_with fail;go_roundw;case rel=>exact⟨k+1,by omega,by omega,by go_num,by unfold foundAt;rw[if_neg (by omega)],HB.out⟩
     case measure=>simp[intOf];omega
  ·rw[if_neg (by omega)]at hv;subst hv;have hc:=ci 0;have hb:(m == 0)=false:=(by rw[beq_eq_false_iff_ne];omega);rw[hb]at hc;clear ci;go_wp2_with fail;with_reducible refine(hc _).mono ?_
   rintro e w1 ⟨rfl,hb1⟩;have HB:=Qh (bstep hb0 hb1 lrf);clear hb0 hb1;go_wp2_with fail;go_ret;exact⟨rfl,HB.out⟩
theorem flTypeOf (v:Value) (w:World):(ReflectliteType.typeOf #[.iface 85 v]).run prog w=.ok (.iface 227 (.agg #[.pointer (some ⟨9,85,none⟩)])) w:=by kernel_rfl
theorem flAssignable (w : World) : (ReflectliteType.relation "AssignableTo" ReflectliteType.assignableTo #[.agg #[.pointer (some ⟨9, 85, none⟩)], .iface 227 (.agg #[.pointer (some ⟨9, 85, none⟩)])]).run prog w = .ok (.bool true) w := by kernel_rfl
theorem flValueOf (m l c:Int) (w:World):(ReflectliteValue.unpack (.iface 85 (.agg #[.int .i64 m,.int .i64 l,.int .i64 c]))).run prog w
  = .ok (.agg #[.pointer (some ⟨9,85,none⟩),.pointer (some ⟨w.heap.size,0,none⟩),.int .u64 153]) (w.alloc (.cells #[.int .i64 m,.int .i64 l,.int .i64 c] 85)):=by kernel_rfl
theorem flElemOf (w:World):(Rtype.elem? 91).run prog w=.ok (some 85) w:=by kernel_rfl
theorem flMk (p:Addr) (w:World):(ReflectliteValue.mk 85 p ReflectliteValue.flagAddr).run prog w=.ok (.agg #[.pointer (some ⟨9,85,none⟩),.pointer (some p),.int .u64 409]) w:=by kernel_rfl
theorem flElemV (a p:Addr) (W:World) (ha:W.cell? a=some (.pointer (some p))) :
  (ReflectliteValue.method (ReflectliteValue.valueError "reflectlite.Value.Elem" 0) ReflectliteValue.elem #[.agg #[.pointer (some ⟨9, 91, none⟩), .pointer (some a), .int .u64 150]]).run prog W
   = .ok (.agg #[.pointer (some ⟨9,85,none⟩),.pointer (some p),.int .u64 409]) W:=by
 rw[asrlm];simp only[Sem.run_bind,asParts,Result.andThen];simp[ReflectliteValue.elem,loadVar,isAgg,underlying,underlying91,ha,Result.andThen,flElemOf,flMk]
theorem flParts1 (a:Addr) (w:World):(ReflectliteValue.parts (.agg #[.pointer (some ⟨9,85,none⟩),.pointer (some a),.int .u64 409])).run prog w=.ok (some (85,a,409)) w:=by kernel_rfl
theorem flParts2 (a:Addr) (w:World):(ReflectliteValue.parts (.agg #[.pointer (some ⟨9,85,none⟩),.pointer (some a),.int .u64 153])).run prog w=.ok (some (85,a,153)) w:=by kernel_rfl
theorem flDirect (w:World):(Rtype.directlyAssignable 85 85).run prog w=.ok true w:=by kernel_rfl
theorem flSize (w:World):(sizeOf 85).run prog w=.ok 3 w:=by kernel_rfl
theorem flAgg (w:World):(isAgg 85).run prog w=.ok true w:=by kernel_rfl
theorem flRls (v x:Value):ReflectliteValue.set #[v,x]=(do
  let (some (dst,a,fl),some (src,b,_)):=(← ReflectliteValue.parts v,← ReflectliteValue.parts x)
   | unsupported (.noEntry "extern/(internal/reflectlite.Value).Set.zeroValue")
  if fl / ReflectliteValue.flagAddr % 2 == 0 then unsupported (.noEntry "extern/(internal/reflectlite.Value).Set.unaddressable")
  let val ← loadVar src b
  if ← Rtype.directlyAssignable dst src then storeVar dst a val
  else if ← Rtype.implements dst src then
   if (← Rtype.kind src) == 20 then
    match val with
    | .nilIface => unsupported (.noEntry "extern/reflectlite: a nil value of one interface type handed on as a value of another")
    | _=>storeVar dst a val
   else storeVar dst a (.iface src val)
  else panicString ("reflectlite.Set: value of type " ++ (← Rtype.spelt src) ++ " is not assignable to type " ++ (← Rtype.spelt dst))
  pure (.tuple #[])):=rfl
theorem flLoad (b:Nat) (x y z:Value) (W:World) (hb:Blk W b #[x,y,z]):(loadVar 85 ⟨b,0,none⟩).run prog W=.ok (.agg #[x,y,z]) W:=by
 obtain⟨b0,b1,b2,_,_,_⟩:=hb.three;unfold loadVar;simp only[Sem.run_bind,flAgg,flSize,Result.andThen,if_true];simp[loadCells,loadCellsFrom,Addr.add,b0,b1,b2,Result.andThen]
theorem flStore (t:Nat) (x y z o0 o1 o2:Value) (h0:x.oneCell' = true) (h1:y.oneCell' = true) (h2:z.oneCell' = true) (W:World) (ht:Blk W t #[o0,o1,o2]) :
  (storeVar 85 ⟨t,0,none⟩ (.agg #[x,y,z])).run prog W=.ok () (((W.setCell ⟨t,0,none⟩ x).setCell ⟨t,1,none⟩ y).setCell ⟨t,2,none⟩ z):=by
 obtain⟨b0,b1,b2,f0,f1,f2⟩:=ht.three;obtain⟨c0,c1,c2,g0,g1,g2⟩:=(ht.st 0 x).three;obtain⟨d0,d1,d2,e0,e1,e2⟩:=((ht.st 0 x).st 1 y).three;unfold storeVar;simp only[Sem.run_bind,flSize,Result.andThen];simp[Value.cells,storeCells,Addr.add,Result.andThen];rw[run_store prog W ⟨t,0,none⟩ _ _ h0];simp[b0,f0];rw[run_store prog _ ⟨t,1,none⟩ _ _ h1];simp[c1,g1];rw[run_store prog _ ⟨t,2,none⟩ _ _ h2];simp[d2,e2]
theorem flSet (t b:Nat) (m l c:Int) (o0 o1 o2:Value) (W:World) (ht:Blk W t #[o0,o1,o2]) (hb:Blk W b #[.int .i64 m,.int .i64 l,.int .i64 c]) :
  (ReflectliteValue.set #[.agg #[.pointer (some ⟨9,85,none⟩),.pointer (some ⟨t,0,none⟩),.int .u64 409],.agg #[.pointer (some ⟨9,85,none⟩),.pointer (some ⟨b,0,none⟩),.int .u64 153]]).run prog W
   = .ok (.tuple #[]) (((W.setCell ⟨t,0,none⟩ (.int .i64 m)).setCell ⟨t,1,none⟩ (.int .i64 l)).setCell ⟨t,2,none⟩ (.int .i64 c)):=by
 rw[flRls];simp only[Sem.run_bind,flParts1,flParts2,Result.andThen];simp[ReflectliteValue.flagAddr,flLoad b _ _ _ W hb,flDirect,flStore t (.int .i64 m) (.int .i64 l) (.int .i64 c) o0 o1 o2 rfl rfl rfl W ht,Result.andThen]
set_option maxRecDepth 100000 in theorem as_flt (m l c : Int) (t : Nat) (o0 o1 o2 : Value) (w : World) (ht : Blk w t #[o0, o1, o2]) (hg : w.cell? ⟨0, 0, none⟩ = some (.iface 227 (.agg #[.pointer (some ⟨9, 24, none⟩)]))) :
  Calls prog 19 #[faultV m l c,.iface 91 (.pointer (some ⟨t,0,none⟩))] w fun e w'=>e=.returned (.bool true)∧Blk w' t #[.int .i64 m,.int .i64 l,.int .i64 c]∧(∀ B,B≤t→Below B w w'):=by
 have h6:=@run_callFunc_extern prog 63 _ (fun args=>ReflectliteValue.unpack (args.getD 0 (.tuple #[]))) func63 (by kernel_rfl) (by kernel_rfl) (by kernel_rfl) (by kernel_rfl);have h7 := @run_callFunc_extern prog 64 _ (ReflectliteValue.methodAny (ReflectliteValue.valueError "reflectlite.Value.Type" 0) (fun t _ _ _ => ReflectliteType.toType t)) func64 (by kernel_rfl) (by kernel_rfl) (by kernel_rfl) (by kernel_rfl)
 have h8 := @run_callFunc_extern prog 65 _ (ReflectliteValue.method (ReflectliteValue.valueError "reflectlite.Value.IsNil" 0) ReflectliteValue.isNil) func65 (by kernel_rfl) (by kernel_rfl) (by kernel_rfl) (by kernel_rfl)
 have h27:=@run_callFunc_extern prog 266 _ (ReflectliteType.abiMethod fun t=>do pure (.int .u8 (← Rtype.kind t))) func266 (by kernel_rfl) (by kernel_rfl) (by kernel_rfl) (by kernel_rfl);have h37:=@run_callFunc_extern prog 282 _ (ReflectliteType.method ReflectliteType.elem) func282 (by kernel_rfl) (by kernel_rfl) (by kernel_rfl) (by kernel_rfl);have h38 := @run_callFunc_extern prog 283 _ (ReflectliteType.relation "Implements" ReflectliteType.implements_) func283 (by kernel_rfl) (by kernel_rfl) (by kernel_rfl) (by kernel_rfl)
 have h10:=@run_callFunc_extern prog 117 _ ReflectliteType.typeOf func117 (by kernel_rfl) (by kernel_rfl) (by kernel_rfl) (by kernel_rfl);have h35 := @run_callFunc_extern prog 280 _ (ReflectliteType.relation "AssignableTo" ReflectliteType.assignableTo) func280 (by kernel_rfl) (by kernel_rfl) (by kernel_rfl) (by kernel_rfl)
 have h11 := @run_callFunc_extern prog 118 _ (ReflectliteValue.method (ReflectliteValue.valueError "reflectlite.Value.Elem" 0) ReflectliteValue.elem) func118 (by kernel_rfl) (by kernel_rfl) (by kernel_rfl) (by kernel_rfl)
 have h12:=@run_callFunc_extern prog 119 _ ReflectliteValue.set func119 (by kernel_rfl) (by kernel_rfl) (by kernel_rfl) (by kernel_rfl);have tO:=flTypeOf;have mA:=asMethodAssignable;have a25:=flAssignable;have v25:=flValueOf;have f6:=asValueOf;have f7:=asType;have mK:=asMethodKind;have mE:=asMethodElem;have mI:=asMethodImplements;have k27:=asKindP;have k25:=asKindF;have e27:=asElem;have i25:=asImplements;have nA:=noAsE;have uE:=noUnwrapE;have vE:=noUnwrapsE;have n8:=asIsNil ⟨w.heap.size,0,none⟩ ⟨t,0,none⟩ ((w.alloc (.cells #[.pointer (some ⟨t,0,none⟩)] 91)).alloc (.cells #[.pointer (some ⟨9,91,none⟩),.pointer (some ⟨w.heap.size,0,none⟩),.int .u64 150] 155)) (by simp);have hlt:0 < w.heap.size:=World.block_lt_of_cell? w _ hg;have hg2:((w.alloc (.cells #[.pointer (some ⟨t,0,none⟩)] 91)).alloc (.cells #[.pointer (some ⟨9,91,none⟩),.pointer (some ⟨w.heap.size,0,none⟩),.int .u64 150] 155)).cell? ⟨0,0,none⟩=some (.iface 227 (.agg #[.pointer (some ⟨9,24,none⟩)])):=by
  rw[World.cell?_alloc_lt _ _ ⟨0,0,none⟩ (by first|(simp;done)|(simp;omega)),World.cell?_alloc_lt _ _ ⟨0,0,none⟩ hlt];exact hg
 have htl:t < w.heap.size:=ht.lt;have el:=flElemV ⟨w.heap.size,0,none⟩ ⟨t,0,none⟩ (((w.alloc (.cells #[.pointer (some ⟨t,0,none⟩)] 91)).alloc (.cells #[.pointer (some ⟨9,91,none⟩),.pointer (some ⟨w.heap.size,0,none⟩),.int .u64 150] 155)).alloc (.cells #[.pointer (some ⟨9,91,none⟩),.pointer (some ⟨w.heap.size,0,none⟩),.int .u64 150] 155)) (by rw[World.cell?_alloc_lt _ _ ⟨w.heap.size,0,none⟩ (by simp;omega)];simp);have hblk:Blk ((((w.alloc (.cells #[.pointer (some ⟨t,0,none⟩)] 91)).alloc (.cells #[.pointer (some ⟨9,91,none⟩),.pointer (some ⟨w.heap.size,0,none⟩),.int .u64 150] 155)).alloc (.cells #[.pointer (some ⟨9,91,none⟩),.pointer (some ⟨w.heap.size,0,none⟩),.int .u64 150] 155)).alloc (.cells #[.int .i64 m,.int .i64 l,.int .i64 c] 85)) t #[o0,o1,o2]:=((((ht.alloc _).alloc _).alloc _).alloc _)
 have st:=flSet t (w.heap.size+1+1+1) m l c o0 o1 o2 ((((w.alloc (.cells #[.pointer (some ⟨t,0,none⟩)] 91)).alloc (.cells #[.pointer (some ⟨9,91,none⟩),.pointer (some ⟨w.heap.size,0,none⟩),.int .u64 150] 155)).alloc (.cells #[.pointer (some ⟨9,91,none⟩),.pointer (some ⟨w.heap.size,0,none⟩),.int .u64 150] 155)).alloc (.cells #[.int .i64 m,.int .i64 l,.int .i64 c] 85)) hblk (by have:=Blk.new (((w.alloc (.cells #[.pointer (some ⟨t,0,none⟩)] 91)).alloc (.cells #[.pointer (some ⟨9,91,none⟩),.pointer (some ⟨w.heap.size,0,none⟩),.int .u64 150] 155)).alloc (.cells #[.pointer (some ⟨9,91,none⟩),.pointer (some ⟨w.heap.size,0,none⟩),.int .u64 150] 155)) #[.int .i64 m,.int .i64 l,.int .i64 c] 85;rw[show(((w.alloc (.cells #[.pointer (some ⟨t,0,none⟩)] 91)).alloc (.cells #[.pointer (some ⟨9,91,none⟩),.pointer (some ⟨w.heap.size,0,none⟩),.int .u64 150] 155)).alloc (.cells #[.pointer (some ⟨9,91,none⟩),.pointer (some ⟨w.heap.size,0,none⟩),.int .u64 150] 155)).heap.size=w.heap.size+1+1+1 by simp]at this;exact this);have hfin:Blk (((((((w.alloc (.cells #[.pointer (some ⟨t,0,none⟩)] 91)).alloc (.cells #[.pointer (some ⟨9,91,none⟩),.pointer (some ⟨w.heap.size,0,none⟩),.int .u64 150] 155)).alloc (.cells #[.pointer (some ⟨9,91,none⟩),.pointer (some ⟨w.heap.size,0,none⟩),.int .u64 150] 155)).alloc (.cells #[.int .i64 m,.int .i64 l,.int .i64 c] 85)).setCell ⟨t,0,none⟩ (.int .i64 m)).setCell ⟨t,1,none⟩ (.int .i64 l)).setCell ⟨t,2,none⟩ (.int .i64 c)) t #[.int .i64 m,.int .i64 l,.int .i64 c]:=((hblk.st 0 _).st 1 _).st 2 _;have hbel:∀ B,B≤t→Below B w (((((((w.alloc (.cells #[.pointer (some ⟨t,0,none⟩)] 91)).alloc (.cells #[.pointer (some ⟨9,91,none⟩),.pointer (some ⟨w.heap.size,0,none⟩),.int .u64 150] 155)).alloc (.cells #[.pointer (some ⟨9,91,none⟩),.pointer (some ⟨w.heap.size,0,none⟩),.int .u64 150] 155)).alloc (.cells #[.int .i64 m,.int .i64 l,.int .i64 c] 85)).setCell ⟨t,0,none⟩ (.int .i64 m)).setCell ⟨t,1,none⟩ (.int .i64 l)).setCell ⟨t,2,none⟩ (.int .i64 c)):=fun B hB=>
  (((((((Below.refl B w).alloc (by omega) _).alloc (by simp;omega) _).alloc (by simp;omega) _).alloc (by simp;omega) _).setCell (p:=⟨t,0,none⟩) hB _).setCell (p:=⟨t,1,none⟩) hB _).setCell (p:=⟨t,2,none⟩) hB _
 have HF:=Qh hfin;have HBE:=Qh hbel;clear hfin hbel hblk ht;unfold faultV;go_enter func19,ntmps19
 go_wp2
 refine wp_loop_rounds 1 ?_;rw[rounds_succ];go_wp2
 go_ret;exact⟨rfl,HF.out,HBE.out⟩
open Go.RowKit
set_option maxRecDepth 100000 in theorem place_flt (m l c : Int) (h1 : 1 ≤ m) (h2 : m ≤ 26) (w : World) (hg : LaidT w) : Calls prog 34 #[faultV m l c] w fun e w' => e = .returned (.tuple #[.int .i64 l, .int .i64 c, .bool true]) ∧ Below w.heap.size w w' := by
 have cN:=num_flt l c m h1 h2;have cA:=fun t o0 o1 o2 w hk hg=>as_flt m l c t o0 o1 o2 w hk hg
 unfold faultV at *;have HK0:=Qh (Blk.new w #[.int .i64 0,.int .i64 0,.int .i64 0] 85);have HB0:=Qh ((Below.refl w.heap.size w).alloc lrf (.cells #[.int .i64 0,.int .i64 0,.int .i64 0] 85));have HG:=Qh (LaidT.keep hg HB0.out);clear hg;go_enter func34,ntmps34
 go_wp2_with fail;generalize w.alloc (.cells #[.int .i64 0,.int .i64 0,.int .i64 0] 85)=w1 at *;with_reducible refine(cA _ _ _ _ _ HK0.out ?_).mono ?_
 ·exact HG.out
 rintro e w2 ⟨rfl,hk,hb⟩;have HB:=Qh (HB0.out.trans (hb _ lrf));obtain⟨r0,r1,r2,f0,f1,f2⟩:=hk.three;clear hb hk HK0 HB0 HG cA;go_wp2_with fail;have l0:=fun x:Later w2=>Later.cell r0 x
 have l1:=fun x:Later w2=>Later.cell r1 x
 have l2:=fun x:Later w2=>Later.cell r2 x
 refine wp_region_later0 (by kernel_rfl) (by kernel_rfl) ?_
 repeat (go_big_quiet_step ((first|(go_at_call 33;with_reducible exact Later.made (cN _)))))
 refine wpQuiet_nil ?_;rintro _ ⟨x,rfl⟩;have HB3:=Qh (bstep HB.out x.below lrf);clear l0 l1 l2 r0 r1 r2 f0 f1 f2;generalize x.w=w3 at *;go_wp2_with fail;exact bodyPost_ret (v:=.tuple #[.int .i64 l,.int .i64 c,.bool true]) (by simp[results,results34,go_sem]) rfl ⟨rfl,HB3.out⟩
set_option maxRecDepth 100000 in theorem at_flt (m l c : Int) (h1 : 1 ≤ m) (h2 : m ≤ 26) (w : World) (hg : LaidT w) : Calls prog 8 #[faultV m l c, .int .i64 m, .int .i64 l, .int .i64 c] w fun e w' => e = .returned (.bool true) ∧ Below w.heap.size w w' := by
 have cN:=num_flt l c m h1 h2;have cP:=place_flt m l c h1 h2 w hg;have hm:(m == 0)=false:=(by rw[beq_eq_false_iff_ne];omega);clear hg;unfold faultV at *;go_enter func8,ntmps8
 go_wp2_with fail;(with_reducible refine cP.mono ?_);rintro e w1 ⟨rfl,hb⟩;have HB:=Qh hb;clear hb cP;go_wp2_with fail;with_reducible refine(cN _).mono ?_
 rintro e w2 ⟨rfl,hb⟩;have HB2:=Qh (bstep HB.out hb lrf);clear hb cN;go_wp2_with fail;go_ret;exact⟨by simp,HB2.out⟩
end Go.Proofs.YtlacjhjckkablaaGreatDoor
