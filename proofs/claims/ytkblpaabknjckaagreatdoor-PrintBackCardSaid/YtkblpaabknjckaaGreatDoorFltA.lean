/-
  errors.As at a fault of api and a target of *api.Fault: it is found; what a place is.
-/
import Derived.Test.YtkblpaabknjckaaGreatDoorBaseD
import Derived.Test.YtkblpaabknjckaaGreatDoorPlain
import Derived.Test.YtkblpaabknjckaaGreatDoorLexB
set_option maxHeartbeats 128000000
set_option linter.unusedVariables false
namespace Go.Proofs.YtkblpaabknjckaaGreatDoor
open Go.Proofs.Tryz
open Go.RowKit Go.Extern.Stop Go.Stop Go.Extern
theorem flTypeOf (v:Value) (w:World):(ReflectliteType.typeOf #[.iface 52 v]).run prog w=.ok (.iface 146 (.agg #[.pointer (some ⟨11,52,none⟩)])) w:=by kernel_rfl
theorem flAssignable (w : World) : (ReflectliteType.relation "AssignableTo" ReflectliteType.assignableTo #[.agg #[.pointer (some ⟨11, 52, none⟩)], .iface 146 (.agg #[.pointer (some ⟨11, 52, none⟩)])]).run prog w = .ok (.bool true) w := by kernel_rfl
theorem flValueOf (m l c:Int) (w:World):(ReflectliteValue.unpack (.iface 52 (.agg #[.int .i64 m,.int .i64 l,.int .i64 c]))).run prog w
  = .ok (.agg #[.pointer (some ⟨11,52,none⟩),.pointer (some ⟨w.heap.size,0,none⟩),.int .u64 153]) (w.alloc (.cells #[.int .i64 m,.int .i64 l,.int .i64 c] 52)):=by kernel_rfl
theorem flElemOf (w:World):(Rtype.elem? 58).run prog w=.ok (some 52) w:=by kernel_rfl
theorem flMk (p:Addr) (w:World):(ReflectliteValue.mk 52 p ReflectliteValue.flagAddr).run prog w=.ok (.agg #[.pointer (some ⟨11,52,none⟩),.pointer (some p),.int .u64 409]) w:=by kernel_rfl
theorem flElemV (a p:Addr) (W:World) (ha:W.cell? a=some (.pointer (some p))) :
  (ReflectliteValue.method (ReflectliteValue.valueError "reflectlite.Value.Elem" 0) ReflectliteValue.elem #[.agg #[.pointer (some ⟨11, 58, none⟩), .pointer (some a), .int .u64 150]]).run prog W
   = .ok (.agg #[.pointer (some ⟨11,52,none⟩),.pointer (some p),.int .u64 409]) W:=by
 rw[asrlm];simp only[Sem.run_bind,asParts,Result.andThen];simp[ReflectliteValue.elem,loadVar,isAgg,underlying,underlying58,ha,Result.andThen,flElemOf,flMk]
theorem flParts1 (a:Addr) (w:World):(ReflectliteValue.parts (.agg #[.pointer (some ⟨11,52,none⟩),.pointer (some a),.int .u64 409])).run prog w=.ok (some (52,a,409)) w:=by kernel_rfl
theorem flParts2 (a:Addr) (w:World):(ReflectliteValue.parts (.agg #[.pointer (some ⟨11,52,none⟩),.pointer (some a),.int .u64 153])).run prog w=.ok (some (52,a,153)) w:=by kernel_rfl
theorem flDirect (w:World):(Rtype.directlyAssignable 52 52).run prog w=.ok true w:=by kernel_rfl
theorem flSize (w:World):(sizeOf 52).run prog w=.ok 3 w:=by kernel_rfl
theorem flAgg (w:World):(isAgg 52).run prog w=.ok true w:=by kernel_rfl
theorem flRls (v x:Value):ReflectliteValue.set #[v,x]=(do
  let (some (dst,a,fl),some (src,b,_)):=(← ReflectliteValue.parts v,← ReflectliteValue.parts x)
   | unsupported (.noEntry "extern/(internal/reflectlite.Value).Set.zeroValue")
  if fl / ReflectliteValue.flagAddr % 2 == 0 then unsupported (.noEntry "extern/(internal/reflectlite.Value).Set.unaddressable")
  let val ← loadVar src b
  if ← Rtype.directlyAssignable dst src then storeVar dst a val
  else if ← Rtype.implements dst src then
   if (← Rtype.kind src) == 20 then
    match val with
    | .nilIface => unsupported (.noEntry "extern/reflectlite: a nil value of one interface type handed on as a value of another")
    | _=>storeVar dst a val
   else storeVar dst a (.iface src val)
  else panicString ("reflectlite.Set: value of type " ++ (← Rtype.spelt src) ++ " is not assignable to type " ++ (← Rtype.spelt dst))
  pure (.tuple #[])):=rfl
theorem flLoad (b:Nat) (x y z:Value) (W:World) (hb:Blk W b #[x,y,z]):(loadVar 52 ⟨b,0,none⟩).run prog W=.ok (.agg #[x,y,z]) W:=by
 obtain⟨b0,b1,b2,_,_,_⟩:=hb.three;unfold loadVar;simp only[Sem.run_bind,flAgg,flSize,Result.andThen,if_true];simp[loadCells,loadCellsFrom,Addr.add,b0,b1,b2,Result.andThen]
theorem flStore (t:Nat) (x y z o0 o1 o2:Value) (h0:x.oneCell' = true) (h1:y.oneCell' = true) (h2:z.oneCell' = true) (W:World) (ht:Blk W t #[o0,o1,o2]) :
  (storeVar 52 ⟨t,0,none⟩ (.agg #[x,y,z])).run prog W=.ok () (((W.setCell ⟨t,0,none⟩ x).setCell ⟨t,1,none⟩ y).setCell ⟨t,2,none⟩ z):=by
 obtain⟨b0,b1,b2,f0,f1,f2⟩:=ht.three;obtain⟨c0,c1,c2,g0,g1,g2⟩:=(ht.st 0 x).three;obtain⟨d0,d1,d2,e0,e1,e2⟩:=((ht.st 0 x).st 1 y).three;unfold storeVar;simp only[Sem.run_bind,flSize,Result.andThen];simp[Value.cells,storeCells,Addr.add,Result.andThen];rw[run_store prog W ⟨t,0,none⟩ _ _ h0];simp[b0,f0];rw[run_store prog _ ⟨t,1,none⟩ _ _ h1];simp[c1,g1];rw[run_store prog _ ⟨t,2,none⟩ _ _ h2];simp[d2,e2]
theorem flSet (t b:Nat) (m l c:Int) (o0 o1 o2:Value) (W:World) (ht:Blk W t #[o0,o1,o2]) (hb:Blk W b #[.int .i64 m,.int .i64 l,.int .i64 c]) :
  (ReflectliteValue.set #[.agg #[.pointer (some ⟨11,52,none⟩),.pointer (some ⟨t,0,none⟩),.int .u64 409],.agg #[.pointer (some ⟨11,52,none⟩),.pointer (some ⟨b,0,none⟩),.int .u64 153]]).run prog W
   = .ok (.tuple #[]) (((W.setCell ⟨t,0,none⟩ (.int .i64 m)).setCell ⟨t,1,none⟩ (.int .i64 l)).setCell ⟨t,2,none⟩ (.int .i64 c)):=by
 rw[flRls];simp only[Sem.run_bind,flParts1,flParts2,Result.andThen];simp[ReflectliteValue.flagAddr,flLoad b _ _ _ W hb,flDirect,flStore t (.int .i64 m) (.int .i64 l) (.int .i64 c) o0 o1 o2 rfl rfl rfl W ht,Result.andThen]
set_option maxRecDepth 100000 in theorem as_flt (m l c : Int) (t : Nat) (o0 o1 o2 : Value) (w : World) (ht : Blk w t #[o0, o1, o2]) (hg : w.cell? ⟨0, 0, none⟩ = some (.iface 146 (.agg #[.pointer (some ⟨11, 25, none⟩)]))) :
  Calls prog 17 #[faultV m l c,.iface 58 (.pointer (some ⟨t,0,none⟩))] w fun e w'=>e=.returned (.bool true)∧Blk w' t #[.int .i64 m,.int .i64 l,.int .i64 c]∧(∀ B,B≤t→Below B w w'):=by
 have h6:=@run_callFunc_extern prog 33 _ (fun args=>ReflectliteValue.unpack (args.getD 0 (.tuple #[]))) func33 (by kernel_rfl) (by kernel_rfl) (by kernel_rfl) (by kernel_rfl);have h7 := @run_callFunc_extern prog 34 _ (ReflectliteValue.methodAny (ReflectliteValue.valueError "reflectlite.Value.Type" 0) (fun t _ _ _ => ReflectliteType.toType t)) func34 (by kernel_rfl) (by kernel_rfl) (by kernel_rfl) (by kernel_rfl)
 have h8 := @run_callFunc_extern prog 35 _ (ReflectliteValue.method (ReflectliteValue.valueError "reflectlite.Value.IsNil" 0) ReflectliteValue.isNil) func35 (by kernel_rfl) (by kernel_rfl) (by kernel_rfl) (by kernel_rfl)
 have h27:=@run_callFunc_extern prog 247 _ (ReflectliteType.abiMethod fun t=>do pure (.int .u8 (← Rtype.kind t))) func247 (by kernel_rfl) (by kernel_rfl) (by kernel_rfl) (by kernel_rfl);have h37:=@run_callFunc_extern prog 263 _ (ReflectliteType.method ReflectliteType.elem) func263 (by kernel_rfl) (by kernel_rfl) (by kernel_rfl) (by kernel_rfl);have h38 := @run_callFunc_extern prog 264 _ (ReflectliteType.relation "Implements" ReflectliteType.implements_) func264 (by kernel_rfl) (by kernel_rfl) (by kernel_rfl) (by kernel_rfl)
 have h10:=@run_callFunc_extern prog 62 _ ReflectliteType.typeOf func62 (by kernel_rfl) (by kernel_rfl) (by kernel_rfl) (by kernel_rfl);have h35 := @run_callFunc_extern prog 261 _ (ReflectliteType.relation "AssignableTo" ReflectliteType.assignableTo) func261 (by kernel_rfl) (by kernel_rfl) (by kernel_rfl) (by kernel_rfl)
 have h11 := @run_callFunc_extern prog 74 _ (ReflectliteValue.method (ReflectliteValue.valueError "reflectlite.Value.Elem" 0) ReflectliteValue.elem) func74 (by kernel_rfl) (by kernel_rfl) (by kernel_rfl) (by kernel_rfl)
 have h12:=@run_callFunc_extern prog 75 _ ReflectliteValue.set func75 (by kernel_rfl) (by kernel_rfl) (by kernel_rfl) (by kernel_rfl);have tO:=flTypeOf;have mA:=asMethodAssignable;have a25:=flAssignable;have v25:=flValueOf;have f6:=asValueOf;have f7:=asType;have mK:=asMethodKind;have mE:=asMethodElem;have mI:=asMethodImplements;have k27:=asKindP;have k25:=asKindF;have e27:=asElem;have i25:=asImplements;have nA:=noAsE;have uE:=noUnwrapE;have vE:=noUnwrapsE;have n8:=asIsNil ⟨w.heap.size,0,none⟩ ⟨t,0,none⟩ ((w.alloc (.cells #[.pointer (some ⟨t,0,none⟩)] 58)).alloc (.cells #[.pointer (some ⟨11,58,none⟩),.pointer (some ⟨w.heap.size,0,none⟩),.int .u64 150] 103)) (by simp);have hlt:0 < w.heap.size:=World.block_lt_of_cell? w _ hg;have hg2:((w.alloc (.cells #[.pointer (some ⟨t,0,none⟩)] 58)).alloc (.cells #[.pointer (some ⟨11,58,none⟩),.pointer (some ⟨w.heap.size,0,none⟩),.int .u64 150] 103)).cell? ⟨0,0,none⟩=some (.iface 146 (.agg #[.pointer (some ⟨11,25,none⟩)])):=by
  rw[World.cell?_alloc_lt _ _ ⟨0,0,none⟩ (by first|(simp;done)|(simp;omega)),World.cell?_alloc_lt _ _ ⟨0,0,none⟩ hlt];exact hg
 have htl:t < w.heap.size:=ht.lt;have el:=flElemV ⟨w.heap.size,0,none⟩ ⟨t,0,none⟩ (((w.alloc (.cells #[.pointer (some ⟨t,0,none⟩)] 58)).alloc (.cells #[.pointer (some ⟨11,58,none⟩),.pointer (some ⟨w.heap.size,0,none⟩),.int .u64 150] 103)).alloc (.cells #[.pointer (some ⟨11,58,none⟩),.pointer (some ⟨w.heap.size,0,none⟩),.int .u64 150] 103)) (by rw[World.cell?_alloc_lt _ _ ⟨w.heap.size,0,none⟩ (by simp;omega)];simp);have hblk:Blk ((((w.alloc (.cells #[.pointer (some ⟨t,0,none⟩)] 58)).alloc (.cells #[.pointer (some ⟨11,58,none⟩),.pointer (some ⟨w.heap.size,0,none⟩),.int .u64 150] 103)).alloc (.cells #[.pointer (some ⟨11,58,none⟩),.pointer (some ⟨w.heap.size,0,none⟩),.int .u64 150] 103)).alloc (.cells #[.int .i64 m,.int .i64 l,.int .i64 c] 52)) t #[o0,o1,o2]:=((((ht.alloc _).alloc _).alloc _).alloc _)
 have st:=flSet t (w.heap.size+1+1+1) m l c o0 o1 o2 ((((w.alloc (.cells #[.pointer (some ⟨t,0,none⟩)] 58)).alloc (.cells #[.pointer (some ⟨11,58,none⟩),.pointer (some ⟨w.heap.size,0,none⟩),.int .u64 150] 103)).alloc (.cells #[.pointer (some ⟨11,58,none⟩),.pointer (some ⟨w.heap.size,0,none⟩),.int .u64 150] 103)).alloc (.cells #[.int .i64 m,.int .i64 l,.int .i64 c] 52)) hblk (by have:=Blk.new (((w.alloc (.cells #[.pointer (some ⟨t,0,none⟩)] 58)).alloc (.cells #[.pointer (some ⟨11,58,none⟩),.pointer (some ⟨w.heap.size,0,none⟩),.int .u64 150] 103)).alloc (.cells #[.pointer (some ⟨11,58,none⟩),.pointer (some ⟨w.heap.size,0,none⟩),.int .u64 150] 103)) #[.int .i64 m,.int .i64 l,.int .i64 c] 52;rw[show(((w.alloc (.cells #[.pointer (some ⟨t,0,none⟩)] 58)).alloc (.cells #[.pointer (some ⟨11,58,none⟩),.pointer (some ⟨w.heap.size,0,none⟩),.int .u64 150] 103)).alloc (.cells #[.pointer (some ⟨11,58,none⟩),.pointer (some ⟨w.heap.size,0,none⟩),.int .u64 150] 103)).heap.size=w.heap.size+1+1+1 by simp]at this;exact this);have hfin:Blk (((((((w.alloc (.cells #[.pointer (some ⟨t,0,none⟩)] 58)).alloc (.cells #[.pointer (some ⟨11,58,none⟩),.pointer (some ⟨w.heap.size,0,none⟩),.int .u64 150] 103)).alloc (.cells #[.pointer (some ⟨11,58,none⟩),.pointer (some ⟨w.heap.size,0,none⟩),.int .u64 150] 103)).alloc (.cells #[.int .i64 m,.int .i64 l,.int .i64 c] 52)).setCell ⟨t,0,none⟩ (.int .i64 m)).setCell ⟨t,1,none⟩ (.int .i64 l)).setCell ⟨t,2,none⟩ (.int .i64 c)) t #[.int .i64 m,.int .i64 l,.int .i64 c]:=((hblk.st 0 _).st 1 _).st 2 _;have hbel:∀ B,B≤t→Below B w (((((((w.alloc (.cells #[.pointer (some ⟨t,0,none⟩)] 58)).alloc (.cells #[.pointer (some ⟨11,58,none⟩),.pointer (some ⟨w.heap.size,0,none⟩),.int .u64 150] 103)).alloc (.cells #[.pointer (some ⟨11,58,none⟩),.pointer (some ⟨w.heap.size,0,none⟩),.int .u64 150] 103)).alloc (.cells #[.int .i64 m,.int .i64 l,.int .i64 c] 52)).setCell ⟨t,0,none⟩ (.int .i64 m)).setCell ⟨t,1,none⟩ (.int .i64 l)).setCell ⟨t,2,none⟩ (.int .i64 c)):=fun B hB=>
  (((((((Below.refl B w).alloc (by omega) _).alloc (by simp;omega) _).alloc (by simp;omega) _).alloc (by simp;omega) _).setCell (p:=⟨t,0,none⟩) hB _).setCell (p:=⟨t,1,none⟩) hB _).setCell (p:=⟨t,2,none⟩) hB _
 have HF:=Qh hfin;have HBE:=Qh hbel;clear hfin hbel hblk ht;unfold faultV;go_enter func17,ntmps17
 go_wp2
 refine wp_loop_rounds 1 ?_;rw[rounds_succ];go_wp2
 go_ret;exact⟨rfl,HF.out,HBE.out⟩
end Go.Proofs.YtkblpaabknjckaaGreatDoor
