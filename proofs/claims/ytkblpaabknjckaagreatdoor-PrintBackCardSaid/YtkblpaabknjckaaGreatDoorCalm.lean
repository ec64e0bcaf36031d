/-
  A region that draws its order: all operations but a forced tail yield one value whatever the world of a class (loads of cells that the class holds, arithmetic, calls that hand back a determined value and keep the class);
  then one walk in the order of the text serves every order; the tail (stores, allocations) is walked from any world of the class.
-/
import Derived.Test.YtkblpaabknjckaaGreatDoorBaseD
import Derived.Test.YtkblpaabknjckaaGreatDoorRows
import Derived.Stop.Asserts
import Derived.Deep.DeepCutAuto
import Derived.Deep.CutBlock
import Derived.Stop.IfaceNil
import Derived.Lib.IfaceEq
import Derived.Deep.Quiet
import Derived.Deep.QuietTactic
import Derived.StillTail
set_option maxHeartbeats 128000000
set_option linter.unusedVariables false
namespace Go.Proofs.YtkblpaabknjckaaGreatDoor
open Go.Proofs.Tryz
open Go.RowKit Go.Extern.Stop Go.Stop Go.Extern
theorem isTypeOf (v:Value) (w:World):(Extern.ReflectliteType.typeOf #[.iface 50 v]).run prog w=.ok (.iface 146 (.agg #[typeHandle prog 50])) w:=by kernel_rfl
theorem isComparable (w : World) : ((Extern.ReflectliteType.method fun t => do Rtype.noPackHeld "Comparable" t; (fun a => Value.bool a.comparable) <$> typeInfo t) #[.agg #[typeHandle prog 50]]).run prog w = .ok (.bool true) w := by kernel_rfl
theorem isMethodComparable (fuel : Nat) (v : Value) (w : World) : (Go.method (fuel + 1) 146 v "Comparable").run prog w = .ok (262, v) w := by kernel_rfl
theorem noIsE (v:Value) (xT:TypeId) (w:World):(Instr.typeAssert (.iface 50 v) xT 180 true).run prog w=.ok (.tuple #[.nilIface,.bool false]) w:=run_typeAssert_lacksB underlying180 (by kernel_rfl) (by kernel_rfl) v xT w
theorem noUnwrapE (v:Value) (xT:TypeId) (w:World):(Instr.typeAssert (.iface 50 v) xT 153 true).run prog w=.ok (.tuple #[.nilIface,.bool false]) w:=run_typeAssert_lacksB underlying153 (by kernel_rfl) (by kernel_rfl) v xT w
theorem noUnwrapsE (v:Value) (xT:TypeId) (w:World):(Instr.typeAssert (.iface 50 v) xT 155 true).run prog w=.ok (.tuple #[.nilIface,.bool false]) w:=run_typeAssert_lacksB underlying155 (by kernel_rfl) (by kernel_rfl) v xT w
set_option maxRecDepth 100000 in theorem isin_errno (m n : Int) (w : World) :
  Calls prog 63 #[.iface 50 (.int .i64 m),.iface 50 (.int .i64 n),.bool true] w fun e w'=>e=.returned (.bool (m == n))∧w' = w:=by
 have nE:=noIsE;have uE:=noUnwrapE;have vE:=noUnwrapsE;have heq:=fun w=>Lib.run_eql_iface_int (P:=prog) w m n (k:=.i64) underlying25 (by kernel_rfl) underlying50
 obtain⟨b,hb⟩:∃ b,b=(m == n):=⟨_,rfl⟩
 rw[← hb]at heq ⊢;clear hb;cases b
 ·go_enter func63,ntmps63
  go_wp2
  refine wp_loop_rounds 1 ?_;rw[rounds_succ];go_wp2
  go_ret;exact⟨rfl,rfl⟩
 ·go_enter func63,ntmps63
  go_wp2
  refine wp_loop_rounds 1 ?_;rw[rounds_succ];go_wp2
  go_ret;exact⟨rfl,rfl⟩
set_option maxRecDepth 100000 in theorem is_errno (m n : Int) (w : World) :
  Calls prog 30 #[.iface 50 (.int .i64 m),.iface 50 (.int .i64 n)] w fun e w'=>e=.returned (.bool (m == n))∧w' = w:=by
 have h8:=@run_callFunc_extern prog 62 _ Extern.ReflectliteType.typeOf func62 (by kernel_rfl) (by kernel_rfl) (by kernel_rfl) (by kernel_rfl);have h32 := @run_callFunc_extern prog 262 _ (Extern.ReflectliteType.method fun t => do Rtype.noPackHeld "Comparable" t; pure (.bool (← typeInfo t).comparable)) func262 (by kernel_rfl) (by kernel_rfl) (by kernel_rfl) (by kernel_rfl)
 have tT:=isTypeOf;have cT:=isComparable;have mR:=isMethodComparable;have ci:=isin_errno m n;generalize (m == n)=b at *;go_enter func30,ntmps30
 go_wp2_with fail;with_reducible refine(ci _).mono ?_
 rintro e w1 ⟨rfl,rfl⟩;clear ci h8 h32 tT cT mR;go_wp2_with fail;go_ret;exact⟨rfl,rfl⟩
def foundAt (m:Int) (k:Nat) (v:Value):Prop:=v=.int .i64 (if (k:Int)≤m then 0 else m)
set_option maxRecDepth 100000 in theorem num_errno (m : Int) (h1 : 1 ≤ m) (h2 : m ≤ 26) (w : World) : Calls prog 14 #[.iface 50 (.int .i64 m)] w fun e w' => e = .returned (.int .i64 m) ∧ w' = w := by
 have ci:=is_errno m;go_enter func14,ntmps14
 go_wp2_with fail;go_loop [3,4] (fun v n=>∃ k:Nat,1≤k∧k≤27∧n=.int .i64 k∧foundAt m k v) (fun _ n=>27 - (intOf n).toNat)
 case atStart=>exact⟨1,by omega,by omega,rfl,by unfold foundAt;rw[if_pos (by omega)]⟩
 case round=>
  obtain⟨k,hk1,hk2,rfl,hv⟩:=hrel;unfold foundAt at hv;by_cases hlt:(k:Int)≤26
  ·by_cases hkm:(k:Int)=m
   ·have hb:(m == (k:Int))=true:=(by rw[beq_iff_eq];exact hkm.symm);rw[if_pos (by omega)]at hv;subst hv;have hc:=ci k;rw[hb]at hc;have HK:=Qh hkm;clear hkm hb ci;go_wp2_with fail;with_reducible refine(hc _).mono ?_
    rintro e w1 ⟨rfl,rfl⟩;go_wp2_with fail;go_round
    case rel=>exact⟨k+1,by omega,by omega,by go_num,by unfold foundAt;rw[if_neg (by have:=HK.out;omega),HK.out]⟩
    case measure=>simp[intOf];omega
   ·have hb:(m == (k:Int))=false:=(by rw[beq_eq_false_iff_ne];exact fun h=>hkm h.symm);have hc:=ci k;rw[hb]at hc;by_cases hle:(k:Int)≤m
    ·rw[if_pos hle]at hv;subst hv;clear hb ci;go_wp2_with fail;with_reducible refine(hc _).mono ?_
     rintro e w1 ⟨rfl,rfl⟩;go_wp2_with fail;go_round
     case rel=>exact⟨k+1,by omega,by omega,by go_num,by unfold foundAt;rw[if_pos (by omega)]⟩
     case measure=>simp[intOf];omega
    ·rw[if_neg hle]at hv;subst hv;clear hb ci;go_wp2_with fail;with_reducible refine(hc _).mono ?_
     rintro e w1 ⟨rfl,rfl⟩;go_wp2_with fail;go_round
     case rel=>exact⟨k+1,by omega,by omega,by go_num,by unfold foundAt;rw[if_neg (by omega)]⟩
     case measure=>simp[intOf];omega
  ·rw[if_neg (by omega)]at hv;subst hv;have hc:=ci 0;have hb:(m == 0)=false:=(by rw[beq_eq_false_iff_ne];omega);rw[hb]at hc;clear ci;go_wp2_with fail;with_reducible refine(hc _).mono ?_
   rintro e w1 ⟨rfl,rfl⟩;go_wp2_with fail;go_ret;exact⟨rfl,rfl⟩
open Go.RowKit
section
variable {P:Program} {ops:Array Oper} {md:Region.Mode} {C:World→Prop}
def HeadQ (P:Program) (md:Region.Mode) (ops:Array Oper) (C:World→Prop) (n:Nat) (L:Array Bool→Act→Prop):Nat→Array Bool→Act→Prop
 | 0,listed,a=>L listed a
 | f+1,listed,a=>Region.ready md ops listed≠[]∧∀ i∈Region.ready md ops listed,i < n∧qOp P ops C i (HeadQ P md ops C n L f (listed.setIfInBounds i true)) a
theorem any_of_headQ {n g:Nat} {L:Array Bool→Act→Prop} {Q':Exit→Act→World→Prop} (hL:∀ listed a w,C w→L listed a→wpAny P md ops Q' g listed a w) :
  ∀ (f:Nat) (listed:Array Bool) (a:Act) (w:World),C w→HeadQ P md ops C n L f listed a→wpAny P md ops Q' (f+g) listed a w:=by
 intro f
 induction f with
 | zero=>intro listed a w hw h;rw[Nat.zero_add];exact hL _ _ _ hw h
 | succ f ih=>
  intro listed a w hw h;have e:f+1+g=(f+g)+1:=(by omega);rw[e];exact⟨fun h0=>absurd h0 h.1,fun i hi=>wpOp_of_qOp hw (fun a' w' hw' h'=>ih _ a' w' hw' h') (h.2 i hi).2⟩
theorem headQ_first {n i:Nat} {oi:Oper} {v:Value} {L:Array Bool→Act→Prop} (hi:ops[i]? = some oi) (hsel:∀ (j:Nat) (o:Oper) cs b,ops[j]? = some o→o.op≠.select cs b)
  (hs:Region.sinkB md ops n=true) (hc:Region.chainB md ops n=true) (hn:n < ops.size) (hin:i < n) (hdone:∀ listed a,L listed a→∀ j∈Region.ready md ops listed,n≤j) (f:Nat) :
  ∀ (listed:Array Bool) (a:Act),HeadInv md ops n listed →
   (∀ j oj,ops[j]? = some oj→j≠i→listed.getD j true=false→(∀ e∈oj.after,Region.binds md e=true→e.on≠i)→oi.apart ops oj=true) →
   i∈Region.ready md ops listed→YieldsIn P ops C oi v a →
   HeadQ P md ops C n L f (listed.setIfInBounds i true) (a.put oi.dst v)→HeadQ P md ops C n L (f+1) listed a:=by
 induction f with
 | zero=>
  intro listed a inv _ hr hy H;have hun:=(mem_ready.1 hr).1;refine⟨fun h=>by simp[h]at hr,fun j hj=>?_⟩;have hjn:j < n:=Nat.lt_of_not_le fun h=>tail_waits hs hc hn inv _ i rfl hin hun j h hj
  by_cases hji:j=i
  ·subst hji;exact⟨hjn,hy.qOp hi H⟩
  ·exact absurd (hdone _ _ H j (ready_mono hj hji)) (by omega)
 | succ f ih=>
  intro listed a inv hfree hr hy H;have hun:=(mem_ready.1 hr).1;refine⟨fun h=>by simp[h]at hr,fun j hj=>?_⟩;have hjn:j < n:=Nat.lt_of_not_le fun h=>tail_waits hs hc hn inv _ i rfl hin hun j h hj
  by_cases hji:j=i
  ·subst hji;exact⟨hjn,hy.qOp hi H⟩
  ·obtain⟨hjun,oj,hoj,hall⟩:=mem_ready.1 hj;have hnot:∀ e∈oj.after,Region.binds md e=true→e.on≠i:=fun e he hb heq=>by
    have h1:=hall e he hb;rw[heq,getD_both hun]at h1;cases h1
   have h2:=qOp_put hoj (hfree j oj hoj hji hjun hnot) (fun cs b=>hsel i oi cs b hi) (fun cs b=>hsel j oj cs b hoj) hy (H.2 j (ready_mono hj hji)).2;refine⟨hjn,qOp_mono (fun a' h3=>ih (listed.setIfInBounds j true) a' (inv.set hj hjn) (fun k ok hk hki hun2 hno=>hfree k ok hk hki ?_ hno) (ready_mono hr (Ne.symm hji)) h3.1 ?_) h2⟩
   ·by_cases hjk:j=k
    ·subst hjk;exact hjun
    ·rwa [getD_set_ne true hjk]at hun2
   ·rw[Array.setIfInBounds_comm _ _ hji];exact h3.2
theorem headQ_lex {n g:Nat} {Lq:Act→Prop} (hsel:Region.noSelect ops=true) (hs:Region.sinkB md ops n=true) (hc:Region.chainB md ops n=true) (hn:n < ops.size) :
  ∀ (l:List Oper) (k:Nat) (listed:Array Bool) (a:Act),(∀ j,j < l.length→l[j]? = ops[k+j]?)→k+l.length=n→HeadInv md ops n listed →
  Region.lexHead md ops g l.length k listed=true→wpQuiet P ops C Lq l a →
  HeadQ P md ops C n (fun listed' a'=>Region.seqB md ops g n listed' = true∧Lq a') l.length listed a:=by
 intro l
 induction l with
 | nil=>
  intro k listed a _ hk _ hB h;obtain rfl:k=n:=by simpa using hk
  exact⟨by simpa [Region.lexHead]using hB,h⟩
 | cons o l ih=>
  intro k listed a hl hk inv hB h;have h0:ops[k]? = some o:=(by simpa using (hl 0 (by simp)).symm);simp only[List.length_cons,Region.lexHead,Bool.and_eq_true]at hB;have hkn:k < n:=(by simp only[List.length_cons]at hk;omega);have hr':k∈Region.ready md ops listed:=(by simpa using hB.1.1);have hst:qOp P ops C k (wpQuiet P ops C Lq l) a:=(by unfold qOp;simp only[h0];exact h);obtain⟨v,hy,hK⟩:=yieldsIn_of_qOp h0 hst;refine headQ_first h0 (Region.noSelect_spec hsel) hs hc hn hkn (fun listed' a' hL=>seqB_ready hL.1) l.length listed a inv (Region.free_spec h0 hB.1.2) hr' hy ?_;exact ih (k+1) _ _ (fun j hj=>by have:=hl (j+1) (by simp;omega);simpa [Nat.add_assoc,Nat.add_comm 1 j]using this) (by simp only[List.length_cons]at hk;omega) (inv.set hr' hkn) hB.2 hK
theorem wp_region_calm {id:Nat} {Q:Exit→Act→World→Prop} {a:Act} {w:World} {l:List Oper} (n:Nat) (hm:P.follows .mixedOrders=true) (hB:Region.lexTailB .any l.toArray n=true) (hC:C w.drew)
  (h:wpQuiet P l.toArray C (fun a'=>∀ w',C w'→wpList P l.toArray Q (l.drop n) a' w') (l.take n) a):(Code.region id l.toArray true).wp P Q a w:=by
 simp only[Region.lexTailB,Bool.and_eq_true,decide_eq_true_eq]at hB;obtain⟨⟨⟨⟨hsel,hn⟩,hs⟩,hc⟩,hlex⟩:=hB;have hn':n < l.length:=(by simpa using hn);have htl:(l.take n).length=n:=(by simp;omega);have hdl:(l.drop n).length=l.toArray.size - n:=(by simp);have inv0:HeadInv .any l.toArray n (Array.replicate l.toArray.size false):=
  ⟨by simp,fun j oj _ hl=>(by rw[getD_replicate_false]at hl;cases hl),fun t _ ht=>getD_in (by simpa using ht) (getD_replicate_false _ _)⟩
 have H:=headQ_lex (md:=.any) (C:=C) (g:=l.toArray.size - n) hsel hs hc hn (l.take n) 0 _ a (fun j hj=>by
  rw[htl]at hj;simp[hj]) (by simpa using htl) inv0 (by rw[htl];exact hlex) h
 refine wp_region_any hm ?_;have H2:=any_of_headQ (Q':=Q) (g:=l.toArray.size - n) (fun listed a' w' hw' hL=>by
  have h3:=wpAny_of_seq (md:=.any) (Q':=Q) (l.drop n) n listed a' w' (fun j=>by simp[List.getElem?_drop]) (by rw[hdl];exact hL.1) (hL.2 w' hw')
  rwa [hdl]at h3) _ _ _ _ hC H
 rw[htl,show n+(l.toArray.size - n)=l.toArray.size by omega]at H2;exact H2
end
def Later (W:World):Type:={ w:World // Below W.heap.size W w }
instance Later.some' (W:World):Nonempty (Later W):=⟨⟨W,Below.refl _ _⟩⟩
def Later.w {W:World} (x:Later W):World:=x.1
theorem Later.below {W:World} (x:Later W):Below W.heap.size W x.w:=x.2
theorem Later.cell {W:World} {a:Addr} {v:Value} (h:W.cell? a=some v) (x:Later W):x.w.cell? a=some v:=cell_keep' h x.2
theorem Later.blk {W:World} {k:Nat} {cs:Array Value} (h:Blk W k cs) (x:Later W):Blk x.w k cs:=h.keep x.2 lrf
theorem Later.same {W:World} {x:Later W} {P:Program} {f:FuncId} {args:Array Value} {v:Value} (c:Calls P f args x.w fun e w'=>e=.returned v∧w' = x.w):Calls P f args x.w fun e w'=>e=.returned v∧∃ y:Later W,w' = y.w:=
 c.mono fun e w' ⟨he,hw⟩=>⟨he,x,hw⟩
theorem Later.made {W:World} {x:Later W} {P:Program} {f:FuncId} {args:Array Value} {v:Value} (c:Calls P f args x.w fun e w'=>e=.returned v∧Below x.w.heap.size x.w w'):Calls P f args x.w fun e w'=>e=.returned v∧∃ y:Later W,w' = y.w:=
 c.mono fun e w' ⟨he,hb⟩=>⟨he,⟨w',bstep x.2 hb lrf⟩,rfl⟩
theorem wp_region_later {P:Program} {id:Nat} {Q:Exit→Act→World→Prop} {a:Act} {w:World} {l:List Oper} (n:Nat) (hm:P.follows .mixedOrders=true) (hB:Region.lexTailB .any l.toArray n=true)
  (h:wpQuiet P l.toArray (fun w'=>∃ x:Later w,w' = x.w) (fun a'=>∀ w',(∃ x:Later w,w' = x.w)→wpList P l.toArray Q (l.drop n) a' w') (l.take n) a):(Code.region id l.toArray true).wp P Q a w:=
 wp_region_calm n hm hB ⟨⟨w.drew,(Below.refl _ _).drew⟩,rfl⟩ h
theorem wp_region_later0 {P:Program} {id:Nat} {Q:Exit→Act→World→Prop} {a:Act} {w:World} {l:List Oper} (hm:P.follows .mixedOrders=true) (hB:Region.lexB .any l.toArray=true)
  (h:wpQuiet P l.toArray (fun w'=>∃ x:Later w,w' = x.w) (fun a'=>∀ w',(∃ x:Later w,w' = x.w)→Q .normal a' w') l a):(Code.region id l.toArray true).wp P Q a w:=
 wp_region_quiet (C:=fun w'=>∃ x:Later w,w' = x.w) hm hB ⟨⟨w.drew,(Below.refl _ _).drew⟩,rfl⟩ (by simpa using h)
end Go.Proofs.YtkblpaabknjckaaGreatDoor
