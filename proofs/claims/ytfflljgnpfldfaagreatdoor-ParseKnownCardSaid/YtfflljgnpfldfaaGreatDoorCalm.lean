/-
  A region that draws its order: all operations but a forced tail yield one value whatever the world of a class (loads of cells that the class holds, arithmetic, calls that hand back a determined value and keep the class);
  then one walk in the order of the text serves every order; the tail (stores, allocations) is walked from any world of the class.
-/
import Derived.Test.YtfflljgnpfldfaaGreatDoorBaseD
set_option linter.all false
set_option maxHeartbeats 128000000
namespace Go.Proofs.YtfflljgnpfldfaaGreatDoor
open Go.RowKit
section
variable {P:Program} {ops:Array Oper} {md:Region.Mode} {C:World→Prop}
def Mh (P:Program) (md:Region.Mode) (ops:Array Oper) (C:World→Prop) (n:Nat) (L:Array Bool→Act→Prop):Nat→Array Bool→Act→Prop
 | 0,listed,a=>L listed a
 | f+1,listed,a=>Region.ready md ops listed≠[]∧∀ i∈Region.ready md ops listed,i < n∧qOp P ops C i (Mh P md ops C n L f (listed.setIfInBounds i true)) a
theorem ajY {n g:Nat} {L:Array Bool→Act→Prop} {Q':Exit→Act→World→Prop} (hL:∀ listed a w,C w→L listed a→wpAny P md ops Q' g listed a w) :
  ∀ (f:Nat) (listed:Array Bool) (a:Act) (w:World),C w→Mh P md ops C n L f listed a→wpAny P md ops Q' (f+g) listed a w:=by
 intro f
 induction f with
 | zero=>intro listed a w hw h;rw[kF];exact hL _ _ _ hw h
 | succ f ih=>
  intro listed a w hw h;have e:f+1+g=(f+g)+1:=ae;rw[e];exact⟨fun h0=>absurd h0 h.1,fun i hi=>wpOp_of_qOp hw (fun a' w' hw' h'=>ih _ a' w' hw' h') (h.2 i hi).2⟩
theorem ajZ {n i:Nat} {oi:Oper} {v:Value} {L:Array Bool→Act→Prop} (hi:ops[i]? = some oi) (wh:∀ (j:Nat) (o:Oper) cs b,ops[j]? = some o→o.op≠.select cs b)
  (hs:Region.sinkB md ops n=true) (hc:Region.chainB md ops n=true) (hn:n < ops.size) (hin:i < n) (hdone:∀ listed a,L listed a→∀ j∈Region.ready md ops listed,n≤j) (f:Nat) :
  ∀ (listed:Array Bool) (a:Act),HeadInv md ops n listed →
   (∀ j oj,ops[j]? = some oj→j≠i→listed.getD j true=false→(∀ e∈oj.after,Region.binds md e=true→e.on≠i)→oi.apart ops oj=true) →
   i∈Region.ready md ops listed→YieldsIn P ops C oi v a →
   Mh P md ops C n L f (listed.setIfInBounds i true) (a.put oi.dst v)→Mh P md ops C n L (f+1) listed a:=by
 induction f with
 | zero=>
  intro listed a inv _ hr hy H;have xN:=(mem_ready.1 hr).1;refine⟨fun h=>by simp[h]at hr,fun j hj=>?_⟩;have hjn:j < n:=Nat.lt_of_not_le fun h=>tail_waits hs hc hn inv _ i rfl hin xN j h hj
  by_cases lY:j=i
  ·subst lY;exact⟨hjn,hy.qOp hi H⟩
  ·exact absurd (hdone _ _ H j (ready_mono hj lY)) ae
 | succ f ih=>
  intro listed a inv DG hr hy H;have xN:=(mem_ready.1 hr).1;refine⟨fun h=>by simp[h]at hr,fun j hj=>?_⟩;have hjn:j < n:=Nat.lt_of_not_le fun h=>tail_waits hs hc hn inv _ i rfl hin xN j h hj
  by_cases lY:j=i
  ·subst lY;exact⟨hjn,hy.qOp hi H⟩
  ·obtain⟨DI,oj,sq,hall⟩:=mem_ready.1 hj;have DJ:∀ e∈oj.after,Region.binds md e=true→e.on≠i:=fun e he hb heq=>by
    have h1:=hall e he hb;rw[heq,getD_both xN]at h1;cases h1
   have h2:=qOp_put sq (DG j oj sq lY DI DJ) (fun cs b=>wh i oi cs b hi) (fun cs b=>wh j oj cs b sq) hy (H.2 j (ready_mono hj lY)).2;refine⟨hjn,qOp_mono (fun a' h3=>ih (listed.setIfInBounds j true) a' (inv.set hj hjn) (fun k ok hk FQ aj0 hno=>DG k ok hk FQ ?_ hno) (ready_mono hr (Ne.symm lY)) h3.1 ?_) h2⟩
   ·by_cases hjk:j=k
    ·subst hjk;exact DI
    ·rwa [zJ true hjk]at aj0
   ·rw[Array.setIfInBounds_comm _ _ lY];exact h3.2
theorem aj1 {n g:Nat} {Lq:Act→Prop} (wh:Region.noSelect ops=true) (hs:Region.sinkB md ops n=true) (hc:Region.chainB md ops n=true) (hn:n < ops.size) :
  ∀ (l:List Oper) (k:Nat) (listed:Array Bool) (a:Act),(∀ j,j < l.length→l[j]? = ops[k+j]?)→k+l.length=n→HeadInv md ops n listed →
  Region.lexHead md ops g l.length k listed=true→wpQuiet P ops C Lq l a →
  Mh P md ops C n (fun listed' a'=>Region.seqB md ops g n listed' = true∧Lq a') l.length listed a:=by
 intro l
 induction l with
 | nil=>
  intro k listed a _ hk _ hB h;obtain rfl:k=n:=zo
  exact⟨by simpa [Region.lexHead]using hB,h⟩
 | cons o l ih=>
  intro k listed a hl hk inv hB h;have h0:ops[k]? = some o:=(by simpa using (hl 0 aB).symm);simp only[dz,Region.lexHead,uF]at hB;have hkn:k < n:=(by simp only[dz]at hk;omega);have hr':k∈Region.ready md ops listed:=(by simpa using hB.1.1);have hst:qOp P ops C k (wpQuiet P ops C Lq l) a:=(by unfold qOp;simp only[h0];exact h);obtain⟨v,hy,hK⟩:=yieldsIn_of_qOp h0 hst;refine ajZ h0 (Region.noSelect_spec wh) hs hc hn hkn (fun listed' a' hL=>seqB_ready hL.1) l.length listed a inv (Region.free_spec h0 hB.1.2) hr' hy ?_;exact ih (k+1) _ _ (fun j hj=>by have:=hl (j+1) cO;simpa [kE,BD 1 j]using this) (by simp only[dz]at hk;omega) (inv.set hr' hkn) hB.2 hK
theorem aj2 {id:Nat} {Q:Exit→Act→World→Prop} {a:Act} {w:World} {l:List Oper} (n:Nat) (hm:P.follows .mixedOrders=true) (hB:Region.lexTailB .any l.toArray n=true) (hC:C w.drew)
  (h:wpQuiet P l.toArray C (fun a'=>∀ w',C w'→wpList P l.toArray Q (l.drop n) a' w') (l.take n) a):(Code.region id l.toArray true).wp P Q a w:=by
 simp only[Region.lexTailB,uF,rR]at hB;obtain⟨⟨⟨⟨wh,hn⟩,hs⟩,hc⟩,aj3⟩:=hB;have hn':n < l.length:=Iu;have tu:(l.take n).length=n:=cO;have fY:(l.drop n).length=l.toArray.size - n:=aB;have aj6:HeadInv .any l.toArray n (Array.replicate l.toArray.size false):=
  ⟨aB,fun j oj _ hl=>(by rw[getD_replicate_false]at hl;cases hl),fun t _ ht=>getD_in (by simpa using ht) (getD_replicate_false _ _)⟩
 have H:=aj1 (md:=.any) (C:=C) (g:=l.toArray.size - n) wh hs hc hn (l.take n) 0 _ a (fun j hj=>by
  rw[tu]at hj;simp[hj]) (by simpa using tu) aj6 (by rw[tu];exact aj3) h
 refine wp_region_any hm ?_;have H2:=ajY (Q':=Q) (g:=l.toArray.size - n) (fun listed a' w' hw' hL=>by
  have h3:=wpAny_of_seq (md:=.any) (Q':=Q) (l.drop n) n listed a' w' (fun j=>by simp[zy]) (by rw[fY];exact hL.1) (hL.2 w' hw')
  rwa [fY]at h3) _ _ _ _ hC H
 rw[tu,show n+(l.toArray.size - n)=l.toArray.size by omega]at H2;exact H2
end
def aW (W:World):Type:={ w:World // Below W.heap.size W w }
instance aW.auS (W:World):Nonempty (aW W):=⟨⟨W,aC _ _⟩⟩
def aW.w {W:World} (x:aW W):World:=x.1
theorem aW.below {W:World} (x:aW W):Below W.heap.size W x.w:=x.2
theorem aW.cell {W:World} {a:Addr} {v:Value} (h:W.cell? a=some v) (x:aW W):x.w.cell? a=some v:=dx h x.2
theorem aW.blk {W:World} {k:Nat} {cs:Array Value} (h:ai W k cs) (x:aW W):ai x.w k cs:=h.keep x.2 af
theorem aW.same {W:World} {x:aW W} {P:Program} {f:FuncId} {args:Array Value} {v:Value} (c:Calls P f args x.w fun e w'=>e=.returned v∧w' = x.w):Calls P f args x.w fun e w'=>e=.returned v∧∃ y:aW W,w' = y.w:=
 c.mono fun e w' ⟨he,hw⟩=>⟨he,x,hw⟩
theorem aW.made {W:World} {x:aW W} {P:Program} {f:FuncId} {args:Array Value} {v:Value} (c:Calls P f args x.w fun e w'=>e=.returned v∧Below x.w.heap.size x.w w'):Calls P f args x.w fun e w'=>e=.returned v∧∃ y:aW W,w' = y.w:=
 c.mono fun e w' ⟨he,hb⟩=>⟨he,⟨w',aH x.2 hb af⟩,rfl⟩
theorem adm {P:Program} {id:Nat} {Q:Exit→Act→World→Prop} {a:Act} {w:World} {l:List Oper} (n:Nat) (hm:P.follows .mixedOrders=true) (hB:Region.lexTailB .any l.toArray n=true)
  (h:wpQuiet P l.toArray (fun w'=>∃ x:aW w,w' = x.w) (fun a'=>∀ w',(∃ x:aW w,w' = x.w)→wpList P l.toArray Q (l.drop n) a' w') (l.take n) a):(Code.region id l.toArray true).wp P Q a w:=
 aj2 n hm hB ⟨⟨w.drew,(aC _ _).drew⟩,rfl⟩ h
theorem KT {P:Program} {id:Nat} {Q:Exit→Act→World→Prop} {a:Act} {w:World} {l:List Oper} (hm:P.follows .mixedOrders=true) (hB:Region.lexB .any l.toArray=true)
  (h:wpQuiet P l.toArray (fun w'=>∃ x:aW w,w' = x.w) (fun a'=>∀ w',(∃ x:aW w,w' = x.w)→Q .normal a' w') l a):(Code.region id l.toArray true).wp P Q a w:=
 wp_region_quiet (C:=fun w'=>∃ x:aW w,w' = x.w) hm hB ⟨⟨w.drew,(aC _ _).drew⟩,rfl⟩ vK
end Go.Proofs.YtfflljgnpfldfaaGreatDoor
