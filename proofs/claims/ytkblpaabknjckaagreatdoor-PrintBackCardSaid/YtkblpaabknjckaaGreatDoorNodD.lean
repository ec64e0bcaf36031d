/-
  Layer 5: node.Gather: contract. (Printed by gen_nodd.py.)
-/
import Derived.Test.YtkblpaabknjckaaGreatDoorBaseD
import Derived.Test.YtkblpaabknjckaaGreatDoorCopC
import Derived.Test.YtkblpaabknjckaaGreatDoorSamA
import Derived.Test.YtkblpaabknjckaaGreatDoorAppC
set_option maxHeartbeats 128000000
set_option linter.unusedVariables false
namespace Go.Proofs.YtkblpaabknjckaaGreatDoor
open Go.Proofs.Tryz
open Go.RowKit
set_option maxRecDepth 100000 in theorem nstations_any (x : StaD) (w : World) (cs : Array Value) (hx : rdSta w x cs.toList) (hr : x.names.length * 16 ≤ 140737488355328) :
  Calls prog 20 #[.agg cs] w fun e w'=>∃ C:Array Value,e=.returned (.agg C)∧fdSta w' x C.toList∧Below w.heap.size w w':=by
 obtain⟨a,cap,ecs,hs⟩:=hx;obtain rfl:cs=x.cells (.slice a x.names.length cap):=Array.toList_inj.1 ecs;clear ecs;have e0:=StaD.cells_size x (.slice a x.names.length cap);have e2:=StaD.cells_to x (.slice a x.names.length cap);have ES:=Qh (StaD.cells_set x (.slice a x.names.length cap));have EO:=Qh (StaD.cells_one x);have EZ:=Qh (StaD.cells_size x);have e3:∀ h,(x.cells (.slice a x.names.length cap))[2]'h=.slice a x.names.length cap:=fun _=>rfl
 have c:=fun W hW=>cloneTx_any x.names x.names.length rfl a cap W hW hr
 generalize x.cells (.slice a x.names.length cap)=C at *;obtain⟨zb,zz,hbz⟩:=box2 w C zeroStaD 34 34;have hu:=underlying34;have hb3:=hbz.2;go_enter func20,ntmps20
 go_wp2_with fail;with_reducible refine(c _ (hs.keep hb3 lrf)).mono ?_
 rintro e w1 ⟨v,rfl,ho,hb⟩;obtain⟨a2,c2,rfl,-⟩:=ho.shape;have hb4:=bstep hb3 hb lrf;have t3:=zb.keep hb lrf;have t2:=zz.keep hb lrf;have T3:=Qh ((t3.put 2 (.slice a2 x.names.length c2)));have T2:=Qh (t2.other (a:=⟨w.heap.size,2,none⟩) (show w.heap.size≠w.heap.size+1 by omega) (.slice a2 x.names.length c2));rw[ES.out]at T3;have f0:=t3.cell 2 _ e2;have f1:=t3.free 2;have q0:=EZ.out (.slice a2 x.names.length c2);have q1:=EO.out a2 x.names.length c2;have HO:=Qh ho;have HB4:=Qh hb4;have HSZ:=Qh hb.size;generalize hD:x.cells (.slice a2 x.names.length c2)=D at *;have HD:=Qh hD;clear hD;clear t3 t2 hb hb3 hb4 c zb zz hbz hs ho;go_wp2_with (first|(refine wpList_loadS T3.out 34 (.tmp 1) hu (by rw[q0];exact sta_size) ?_)|(refine wpList_storeS T2.out 34 (.tmp 2) (.tmp 7) (by rw[q0];exact sta_size) (by rw[q0];rfl) q1 ?_))
 have hrun:=run_loadS (T2.out.row D) 34 _ hu rfl (by rw[q0];exact sta_size);have hb5:=HB4.out;have hz:w.heap.size+1+1≤w1.heap.size:=Nat.le_trans (by simp) HSZ.out;refine bodyPost_ret (v:=.agg D) (by simp[results,results20,Act.put,asAddr,hrun]) rfl ⟨D,rfl,⟨_,by rw[← HD.out],?_⟩,?_⟩
 ·refine Owns.ofBlock (HO.out.fromBase (Nat.zero_le _)) fun k hk=>?_
  have hk2:w.heap.size+1+1≤k:=Nat.le_trans (by simp) (HO.out.lt k hk).1;rw[heap_setRow_other _ _ _ _ (show k≠w.heap.size+1 by omega)];exact Below.heap_setCell _ _ _ _ (by show k≠w.heap.size;omega)
 ·exact below_row (hb5.setCell (by show w.heap.size≤w.heap.size;omega) _) (by omega) _
set_option maxRecDepth 100000 in theorem ntable_any (x : TabD) (w : World) (cs : Array Value) (hx : rdTab w x cs.toList) (hr : x.rows.length * 24 ≤ 140737488355328) :
  Calls prog 22 #[.agg cs] w fun e w'=>∃ C:Array Value,e=.returned (.agg C)∧fdTab w' x C.toList∧Below w.heap.size w w':=by
 obtain⟨a,cap,ecs,hs⟩:=hx;obtain rfl:cs=x.cells (.slice a x.rows.length cap):=Array.toList_inj.1 ecs;clear ecs;have e0:=TabD.cells_size x (.slice a x.rows.length cap);have e2:=TabD.cells_to x (.slice a x.rows.length cap);have ES:=Qh (TabD.cells_set x (.slice a x.rows.length cap));have EO:=Qh (TabD.cells_one x);have EZ:=Qh (TabD.cells_size x);have e3:∀ h,(x.cells (.slice a x.rows.length cap))[5]'h=.slice a x.rows.length cap:=fun _=>rfl
 have c:=fun W hW=>cloneRw_any x.rows x.rows.length rfl a cap W hW hr
 generalize x.cells (.slice a x.rows.length cap)=C at *;obtain⟨zb,zz,hbz⟩:=box2 w C zeroTabD 76 76;have hu:=underlying76;have hb3:=hbz.2;go_enter func22,ntmps22
 go_wp2_with fail;with_reducible refine(c _ (hs.keep hb3 lrf)).mono ?_
 rintro e w1 ⟨v,rfl,ho,hb⟩;obtain⟨a2,c2,rfl,-⟩:=ho.shape;have hb4:=bstep hb3 hb lrf;have t3:=zb.keep hb lrf;have t2:=zz.keep hb lrf;have T3:=Qh ((t3.put 5 (.slice a2 x.rows.length c2)));have T2:=Qh (t2.other (a:=⟨w.heap.size,5,none⟩) (show w.heap.size≠w.heap.size+1 by omega) (.slice a2 x.rows.length c2));rw[ES.out]at T3;have f0:=t3.cell 5 _ e2;have f1:=t3.free 5;have q0:=EZ.out (.slice a2 x.rows.length c2);have q1:=EO.out a2 x.rows.length c2;have HO:=Qh ho;have HB4:=Qh hb4;have HSZ:=Qh hb.size;generalize hD:x.cells (.slice a2 x.rows.length c2)=D at *;have HD:=Qh hD;clear hD;clear t3 t2 hb hb3 hb4 c zb zz hbz hs ho;go_wp2_with (first|(refine wpList_loadS T3.out 76 (.tmp 1) hu (by rw[q0];exact tab_size) ?_)|(refine wpList_storeS T2.out 76 (.tmp 2) (.tmp 7) (by rw[q0];exact tab_size) (by rw[q0];rfl) q1 ?_))
 have hrun:=run_loadS (T2.out.row D) 76 _ hu rfl (by rw[q0];exact tab_size);have hb5:=HB4.out;have hz:w.heap.size+1+1≤w1.heap.size:=Nat.le_trans (by simp) HSZ.out;refine bodyPost_ret (v:=.agg D) (by simp[results,results22,Act.put,asAddr,hrun]) rfl ⟨D,rfl,⟨_,by rw[← HD.out],?_⟩,?_⟩
 ·refine Owns.ofBlock (HO.out.fromBase (Nat.zero_le _)) fun k hk=>?_
  have hk2:w.heap.size+1+1≤k:=Nat.le_trans (by simp) (HO.out.lt k hk).1;rw[heap_setRow_other _ _ _ _ (show k≠w.heap.size+1 by omega)];exact Below.heap_setCell _ _ _ _ (by show k≠w.heap.size;omega)
 ·exact below_row (hb5.setCell (by show w.heap.size≤w.heap.size;omega) _) (by omega) _
theorem flatMap_set_cell {n:Nat}:∀ (rows:List (Row n)) (k j:Nat) (hk:k < rows.length) (hj:j < n) (v:Value) (r:Row n),r.1=rows[k].1.set j v→(rows.set k r).flatMap Row.en=(rows.flatMap Row.en).set (k*n+j) v
 | x::rows,0,j,hk,hj,v,r,hr=>by
  show r.1++rows.flatMap Row.en=(x.1++rows.flatMap Row.en).set (0*n+j) v;rw[hr,Nat.zero_mul,Nat.zero_add,List.set_append_left _ _ (by rw[x.2];exact hj)];rfl
 | x::rows,k+1,j,hk,hj,v,r,hr=>by
  show x.1++(rows.set k r).flatMap Row.en=(x.1++rows.flatMap Row.en).set ((k+1)*n+j) v;rw[flatMap_set_cell rows k j (by simpa using hk) hj v r hr,List.set_append_right _ _ (by rw[x.2,Nat.add_mul];omega),x.2]
  congr 1
  congr 1
  rw[Nat.add_mul];omega
theorem Owns.setCellRow {w:World} {base:Nat} {e:TypeId} {n:Nat} {g m cap:Nat} {rows:List (Row n)} (h:Owns w base e n Row.en (.slice (some ⟨g,0,none⟩) m cap) rows) {k j:Nat} (hk:k < rows.length) (hj:j < n) (v:Value) (r:Row n) (hr:r.1=rows[k].1.set j v) :
  Owns (w.setCell ⟨g,k*n+j,none⟩ v) base e n Row.en (.slice (some ⟨g,0,none⟩) m cap) (rows.set k r):=by
 unfold Owns;rw[flatMap_set_cell rows k j hk hj v r hr,List.length_set];have hle:(k+1)*n≤rows.length*n:=Nat.mul_le_mul_right _ (by omega);rw[Nat.add_mul]at hle;exact ownsRow_setRow (k*n+j) [v] h (by rw[flatMap_length Row.en_len];simp;omega)
theorem all2_of {α β:Type} {R:α→β→Prop}:∀ (xs:List α) (ys:List β),xs.length=ys.length→(∀ j (h1:j < xs.length) (h2:j < ys.length),R xs[j] ys[j])→All2 R xs ys
 | [],[],_,_=>.nil
 | x::xs,y::ys,hl,h=>.cons (h 0 (by simp) (by simp)) (all2_of xs ys (by simpa using hl) fun j h1 h2=>h (j+1) (by simpa using h1) (by simpa using h2))
 | [],_::_,hl,_=>by simp at hl
 | _::_,[],hl,_=>by simp at hl
def MixR (w wr:World) (k:Nat) (xs:List SigX) (rows:List (Row 19)):Prop:=xs.length=rows.length∧∀ j (h1:j < xs.length) (h2:j < rows.length),(j < k→fdSig wr xs[j] rows[j].1)∧(k≤j→rdSig w xs[j] rows[j].1)
theorem MixR.next {w wr wr':World} {k:Nat} {xs:List SigX} {rows:List (Row 19)} (h:MixR w wr k xs rows) (hk:k < rows.length) (hk':k < xs.length) (r:Row 19) (hr:fdSig wr' xs[k] r.1) (hm:∀ x cs,fdSig wr x cs→fdSig wr' x cs):MixR w wr' (k+1) xs (rows.set k r):=by
 refine⟨by rw[List.length_set];exact h.1,fun j h1 h2=>?_⟩;rw[List.length_set]at h2;by_cases hj:k=j
 ·subst hj;refine⟨fun _=>?_,fun h3=>by omega⟩
  simpa using hr
 ·rw[List.getElem_set_ne hj];exact⟨fun h3=>hm _ _ ((h.2 j h1 h2).1 (by omega)),fun h3=>(h.2 j h1 h2).2 (by omega)⟩
theorem rdSig_oneR {w:World} {x:SigX} {r:Row 19} (h:rdSig w x r.1):OneR r:=by
 obtain⟨a,cap,e,-⟩:=h;intro u hu;unfold Row.en at hu;rw[e]at hu;have:=SigD.cells_one x.d a x.rs.length cap;exact(Array.all_eq_true_iff_forall_mem.1 this) u (Array.mem_toList_iff.1 hu)
set_option maxRecDepth 100000 in theorem nmessage_own (x : MsgD) (w : World) (cs : Array Value) (hx : rdMsg w x cs.toList) (hr : x.sigs.length ≤ 4000000) (hr2 : ∀ s ∈ x.sigs, s.rs.length ≤ 4000000) :
  Calls prog 21 #[.agg cs] w fun e w'=>∃ C:Array Value,e=.returned (.agg C)∧(∃ v,C.toList=(x.cells v).toList∧OwnRd w' w.heap.size 89 fdSig 19 v x.sigs)∧Below w.heap.size w w':=by
 obtain⟨a,cap,ecs,rows,hs,h2⟩:=hx;obtain rfl:cs=x.cells (.slice a x.sigs.length cap):=Array.toList_inj.1 ecs;clear ecs;have hlen:=h2.len;have hone:∀ r:Row 19,r∈rows→OneR r:=by
  intro r hr;obtain⟨j,hj,rfl⟩:=List.mem_iff_getElem.1 hr;exact rdSig_oneR (h2.get (by omega) hj)
 have hmix:MixR w w 0 x.sigs rows:=⟨hlen,fun j h3 h4=>⟨fun h=>by omega,fun _=>h2.get h3 h4⟩⟩
 have c:=fun W hW=>cloneSg_any rows hone x.sigs.length hlen a cap W hW (by omega)
 have e0:=MsgD.cells_size x (.slice a x.sigs.length cap);have e2:=MsgD.cells_to x (.slice a x.sigs.length cap);have ES:=Qh (MsgD.cells_set x (.slice a x.sigs.length cap));have EO:=Qh (MsgD.cells_one x);have EZ:=Qh (MsgD.cells_size x);have ET:=Qh (fun v=>MsgD.cells_to x v);have HR2:=Qh hr2;have e3:∀ h,(x.cells (.slice a x.sigs.length cap))[7]'h=.slice a x.sigs.length cap:=fun _=>rfl
 generalize x.cells (.slice a x.sigs.length cap)=C at *;obtain⟨zb,zz,hz2,hbz⟩:=box2 w C zeroMsgD 72 72;have hu:=underlying72;have hb3:=hbz;have HMIX:=Qh hmix;have HLEN:=Qh hlen;clear hmix hlen h2 hone hr2;go_enter func21,ntmps21
 go_wp2_with fail;with_reducible refine(c _ (hs.keep hb3 lrf)).mono ?_
 rintro e w1 ⟨v,rfl,ho,hb⟩;have hosh:=ho.shape;rw[← HLEN.out]at hosh;obtain⟨a2,c2,rfl,-⟩:=hosh;have hb4:=bstep hb3 hb lrf;have t3:=zb.keep hb lrf;have t2:=Blk.kindAt (show((w.alloc (.cells C 72)).alloc (.cells zeroMsgD 72)).heap[w.heap.size+1]? = some (.cells zeroMsgD 72)by simpa using heap_alloc_new (w.alloc (.cells C 72)) (.cells zeroMsgD 72)) hb;have T3:=Qh ((t3.put 7 (.slice a2 x.sigs.length c2)));have T2:=Qh (setCell_ne t2 (show w.heap.size+1≠w.heap.size by omega) 7 (.slice a2 x.sigs.length c2));rw[ES.out]at T3;have f0:=t3.cell 7 _ e2;have f1:=t3.free 7;have hbase:w.heap.size+2≤((w.alloc (.cells C 72)).alloc (.cells zeroMsgD 72)).heap.size:=(by simp);have HO:=Qh (show Owns (w1.setCell ⟨w.heap.size,7,none⟩ (.slice a2 x.sigs.length c2)) (w.heap.size+2) 89 19 Row.en (.slice a2 x.sigs.length c2) rows from by
  refine Owns.ofBlock (ho.fromBase hbase) fun k hk=>?_
  have hk2:w.heap.size+2≤k:=Nat.le_trans hbase (ho.lt k hk).1;exact Below.heap_setCell _ _ _ _ (by show k≠w.heap.size;omega))
 have HB4:=Qh (below_set hb4 lrf 7 (.slice a2 x.sigs.length c2));generalize hCx:x.cells (.slice a2 x.sigs.length c2)=C2 at *;have f7:=T3.out.cell 7 _ (by rw[← hCx];exact ET.out _);have HC2:=Qh hCx;have q0:=Qh (show C2.size=8 by rw[← hCx];exact EZ.out _);have q1:=Qh (show C2.all (·.oneCell')=true by rw[← hCx];exact EO.out a2 x.sigs.length c2);clear hCx t3 t2 hb hb3 hb4 c zb zz hbz hs ho hz2 e0 e2 e3 ET hbase;generalize hL:x.sigs=L at *;have HL:=Qh hL;clear hL;go_wp2_with fail;clear f0 f1;generalize w1.setCell ⟨w.heap.size,7,none⟩ (.slice a2 L.length c2)=w2 at *;have hSW:=Qh (Below.refl w2.heap.size w2);go_loopw [11] (fun i wr=>∃ (k:Nat) (rs:List (Row 19)),k≤L.length∧i=.int .i64 (k:Nat)∧MixR w wr k L rs∧Owns wr (w.heap.size+2) 89 19 Row.en (.slice a2 L.length c2) rs∧Below w.heap.size w wr∧Blk wr w.heap.size C2∧wr.heap[w.heap.size+1]? = some (.cells zeroMsgD 72)) (fun i _=>L.length - (intOf i).toNat)
 case atStart=>
  refine⟨0,rows,Nat.zero_le _,rfl,?_,HO.out,HB4.out,T3.out,T2.out⟩;exact⟨HMIX.out.1,fun j h3 h4=>⟨fun h=>by omega,(HMIX.out.2 j h3 h4).2⟩⟩
 case round=>
  clear f7 HO HB4 T3 T2 HMIX HLEN hSW;obtain⟨k,rs,hk,rfl,hmix,hown,hbel,t3,t2⟩:=hrel;have hlr:=hmix.1;have f7:=t3.cell 7 (.slice a2 L.length c2) (by rw[← HC2.out];rfl);by_cases hlt:(k:Int) < L.length
  ·have hlt':k < L.length:=(by omega);have hltr:k < rs.length:=(by omega);have hbk:=hown.block (by omega);rw[← hlr]at hbk;obtain⟨g,cap',hv,hg1,hg2,hg3,hg4⟩:=hbk;obtain⟨rfl,rfl⟩:a2=some ⟨g,0,none⟩∧c2=cap':=by cases hv;exact⟨rfl,rfl⟩
   clear hv;obtain⟨b',o',e',-,hcell⟩:=SlOf.cells hown.sl.2 Row.en_len (by decide) hltr;cases e'
   have h18:=hcell 18 (by decide);obtain⟨a',n',er,hsx⟩:=(hmix.2 k hlt' hltr).2 lrf;have hsx2:=hsx.keep hbel lrf;unfold Row.en at h18;rw[er]at h18;rw[show((L[k].d.cells (.slice a' L[k].rs.length n')).toList)[18]? = some (.slice a' L[k].rs.length n')from rfl,Nat.zero_add]at h18;have hfr:=hown.free (k*19+18);have cT:=fun (W:World) (hW:SlX W a' n' L[k].rs)=>cloneTx_any L[k].rs L[k].rs.length rfl a' n' W hW (by have:=HR2.out _ (List.getElem_mem hlt');omega)
   have HK:=Qh (⟨hmix,hown,t3,t2,hbel⟩:MixR w wr k L rs∧Owns wr (w.heap.size+2) 89 19 Row.en (.slice (some ⟨g,0,none⟩) L.length c2) rs∧Blk wr w.heap.size C2∧wr.heap[w.heap.size+1]? = some (.cells zeroMsgD 72)∧Below w.heap.size w wr);have HER:=Qh er;have HSX:=Qh hsx2;clear hmix hown t3 t2 hbel er hsx hsx2 hcell;generalize hy:L[k]=y at *;have HY:=Qh hy;clear hy;have hw7:w.heap.size < wr.heap.size:=HK.out.2.2.1.lt;have HLR:=Qh hlr;clear hlr;go_wp2_with fail;refine wp_region_held_drew (S:=(fun (w':World)=>w'.cell? ⟨w.heap.size,7,none⟩=some (.slice (some ⟨g,0,none⟩) L.length c2))) (by kernel_rfl) f7 (fun hHeld=>?_);refine hT 0 ?_;try simp only[spt]
   refine hT 1 ?_;try simp only[spt]
   refine hT 2 ?_;try simp only[spt]
   refine hT 3 ?_;try simp only[spt]
   refine hT 4 ?_;try simp only[spt]
   refine hT 5 ?_;try simp only[spt]
   refine hT 6 ?_;try simp only[spt]
   refine hT 7 ?_;try simp only[spt]
   refine held_call 8 rfl (by kernel_rfl) (fun K hK=>?_);go_simp;refine hK.out _ _ ?_ (fun hHeld=>?_)
   ·exact f7
   clear hK K;try simp only[spt]
   refine held_call 9 rfl (by kernel_rfl) (fun K hK=>?_);go_simp;with_reducible refine(cT _ (SlOf.drew HSX.out)).mono ?_
   rintro e w3 ⟨v,rfl,ho,hb⟩;refine hK.out _ _ ?_ (fun hHeld=>?_)
   ·exact cell_keep' (w:=wr.drew) f7 hb
   clear hK K;obtain⟨a5,c5,rfl,-⟩:=ho.shape;have hb5:Below wr.heap.size wr w3:=(Below.refl wr.heap.size wr).drew.trans hb;try simp only[spt]
   refine hT 10 ?_;try simp only[spt]
   refine hT 11 ?_;try simp only[spt]
   refine held_call 12 rfl (by kernel_rfl) (fun K hK=>?_);have h18b:=cell_keep' h18 hb5;have hfrb:w3.frozen? ⟨g,k*19+18,none⟩=false:=(by rw[frozen_keep hb5 hg2];exact hfr);go_simp;have hne7:w.heap.size≠g:=(by omega);refine hK.out _ _ ?_ (fun hHeld2=>?_)
   ·exact(World.cell?_of_block (Below.heap_setCell _ _ _ _ (show w.heap.size≠g from hne7))).trans hHeld
   clear hK K hHeld hHeld2;refine wpAnyH_done (by kernel_rfl) ?_ _;obtain⟨hmix,hown,t3,t2,hbel⟩:=HK.out;have hown3:=hown.keep hb5 lrf;obtain⟨Cg,fz,hkg⟩:=Lib.ownsRow_kind hown3 g rfl;have hs4:∀ z cs,fdSig w3 z cs→fdSig (w3.setCell ⟨g,k*19+18,none⟩ (.slice a5 y.rs.length c5)) z cs:=fun z cs hz=>apt_fdSig (by decide) _ _ _ _ _ _ _ hz hkg (by simp[World.setCell]) (fun b _ hne=>Below.heap_setCell _ _ _ _ hne)
   obtain⟨r,hr1⟩:∃ r:Row 19,r.1=rs[k].1.set 18 (.slice a5 y.rs.length c5):=⟨⟨rs[k].1.set 18 (.slice a5 y.rs.length c5),by rw[List.length_set];exact rs[k].2⟩,rfl⟩
   have hfr1:fdSig (w3.setCell ⟨g,k*19+18,none⟩ (.slice a5 y.rs.length c5)) y r.1:=hs4 _ _ ⟨.slice a5 y.rs.length c5,by rw[hr1,HER.out];rfl,ho.fromBase (Nat.zero_le _)⟩;have hfr2:fdSig (w3.setCell ⟨g,k*19+18,none⟩ (.slice a5 y.rs.length c5)) L[k] r.1:=(by rw[HY.out];exact hfr1);have m1:=Qh (hmix.next hltr hlt' r hfr2 (fun z cs hz=>hs4 _ _ (last_fdSig _ _ _ _ hz hb5)));have m2:=Qh (hown3.setCellRow hltr (by decide) (.slice a5 y.rs.length c5) r hr1);have m3:=Qh (below_set (bstep hbel hb5 lrf) (show w.heap.size≤g by omega) (k*19+18) (.slice a5 y.rs.length c5));have m4:=Qh ((t3.keep hb5 lrf).other (a:=⟨g,k*19+18,none⟩) (show g≠w.heap.size by omega) (.slice a5 y.rs.length c5));have m5:=Qh (setCell_ne (Blk.kindAt t2 hb5) (show w.heap.size+1≠g by omega) (k*19+18) (.slice a5 y.rs.length c5));clear hmix hown t3 t2 hbel hown3 hkg hs4 hfr1 hfr2 HK ho hb hb5 h18 h18b hfr hfrb f7 cT HSX;go_wp2_with fail;go_roundw;case rel=>exact⟨k+1,rs.set k r,by omega,by go_num,m1.out,m2.out,m3.out,m4.out,m5.out⟩
   case measure=>simp[intOf];omega
  ·obtain rfl:k=L.length:=by omega
   have HMX:=Qh hmix;have HO:=Qh hown;have HB:=Qh hbel;have T3:=Qh t3;have K2:=Qh t2;have T2:=Qh (show Blk wr (w.heap.size+1) zeroMsgD from ⟨_,t2⟩);have q0:=q0.out;have q1:=q1.out;clear hmix hown hbel t3 t2 hlr hlt f7;go_wp2_with (first|(refine wpList_loadS T3.out 72 (.tmp 1) hu (by rw[q0];exact msg_size) ?_)|(refine wpList_storeS T2.out 72 (.tmp 2) (.tmp 27) (by rw[q0];exact msg_size) (by rw[q0];rfl) q1 ?_))
   have hrun:=run_loadS (T2.out.row C2) 72 _ hu rfl (by rw[q0];exact msg_size);have hb6:=below_row HB.out (show w.heap.size≤w.heap.size+1 by omega) C2;refine bodyPost_ret (v:=.agg C2) (by simp[results,results21,Act.put,asAddr,hrun]) rfl ⟨C2,rfl,⟨_,by rw[← HC2.out],?_⟩,hb6⟩;rw[HL.out];have hne:∀ k,(Value.slice a2 L.length c2).ownBlock=some k→k≠w.heap.size+1:=fun k hk=>by have:=(HO.out.lt k hk).1;omega
   refine⟨rs,(Owns.ofBlock HO.out fun k hk=>heap_setRow_other _ _ _ _ (hne k hk)).fromBase (by omega),all2_of _ _ HMX.out.1 fun j h1 h2=>?_⟩;exact apt_fdSig (by decide) _ _ _ _ _ _ _ ((HMX.out.2 j h1 h2).1 h1) K2.out (by simp[World.setRow]) (fun b _ hne=>heap_setRow_other _ _ _ _ hne)
theorem nmessage_any (x:MsgD) (w:World) (cs:Array Value) (hx:rdMsg w x cs.toList) (hr:x.sigs.length≤4000000) (hr2:∀ s∈x.sigs,s.rs.length≤4000000) :
  Calls prog 21 #[.agg cs] w fun e w'=>∃ C:Array Value,e=.returned (.agg C)∧fdMsg w' x C.toList∧Below w.heap.size w w':=
 (nmessage_own x w cs hx hr hr2).mono fun e w' ⟨C,h1,⟨v,h2,h3⟩,h4⟩=>⟨C,h1,⟨v,h2,h3.fromBase (Nat.zero_le _)⟩,h4⟩
def zSig (s:SigX):SigX:=⟨{ s.d with line:=0,col:=0 },s.rs⟩
def zMsg (m:MsgD):MsgD:={ m with line:=0,col:=0,sigs:=m.sigs.map zSig }
def zTab (t:TabD):TabD:={ t with line:=0,col:=0 }
def bareD (d:DbD):DbD:=⟨d.has,if d.has then { d.ver with line:=0,col:=0 } else ⟨0,0,[]⟩,{ d.sta with line:=0,col:=0 },d.msgs.map zMsg,d.tabs.map zTab⟩
def zE (e:Nat) (s:SigX):SigX:=if e=0 then ⟨{ s.d with line:=0 },s.rs⟩ else ⟨{ s.d with col:=0 },s.rs⟩
theorem zSig_zE (e:Nat) (s:SigX):zSig (zE e s)=zSig s:=by unfold zE;split<;>rfl
theorem zE_fix (e:Nat) (s:SigX) (h:zSig s=s):zE e s=s:=by
 obtain⟨d,rs⟩:=s;obtain⟨⟩:=d;unfold zSig at h;simp only[SigX.mk.injEq,SigD.mk.injEq,and_true]at h;obtain⟨rfl,rfl⟩:=h;unfold zE;split<;>rfl
theorem modify_map {α β:Type} (f:α→β) (g:α→α) (hg:∀ x,f (g x)=f x):∀ (l:List α) (k:Nat),(l.modify k g).map f=l.map f
 | [],k=>by cases k<;>rfl
 | x::l,0=>by
  show f (g x)::l.map f=f x::l.map f;rw[hg]
 | x::l,k+1=>by
  show f x::(l.modify k g).map f=f x::l.map f;rw[modify_map f g hg l k]
theorem modify_fix {α:Type} (g:α→α):∀ (l:List α) (k:Nat),(∀ x∈l,g x=x)→l.modify k g=l
 | [],k,_=>by cases k<;>rfl
 | x::l,0,h=>by
  show g x::l=x::l;rw[h x (by simp)]
 | x::l,k+1,h=>by
  show x::l.modify k g=x::l;rw[modify_fix g l k fun y hy=>h y (List.mem_cons_of_mem _ hy)]
theorem modify_set {α:Type} (g:α→α):∀ (l:List α) (k:Nat) (hk:k < l.length),l.modify k g=l.set k (g l[k])
 | [],k,hk=>by simp at hk
 | x::l,0,_=>rfl
 | x::l,k+1,hk=>by
  show x::l.modify k g=x::l.set k _;rw[modify_set g l k (by simpa using hk)];rfl
theorem modify_out {α:Type} (g:α→α):∀ (l:List α) (k:Nat),l.length≤k→l.modify k g=l
 | [],k,_=>by cases k<;>rfl
 | x::l,0,h=>by simp at h
 | x::l,k+1,h=>by
  show x::l.modify k g=x::l;rw[modify_out g l k (by simpa using h)]
theorem Owns.setBeyond {α:Type} {w:World} {base:Nat} {e:TypeId} {size:Nat} {en:α→List Value} {v:Value} {xs:List α} (h:Owns w base e size en v xs) (g j:Nat) (u:Value) (hj:v.ownBlock=some g→xs.length*size≤j):Owns (w.setCell ⟨g,j,none⟩ u) base e size en v xs:=by
 refine⟨h.1,?_⟩;rcases h.2 with h0|⟨b,cap,cur,hv,h1,h2,h3,h4,h5,h6⟩
 ·exact .inl h0
 ·refine .inr ?_;by_cases hb:b=g
  ·subst hb;refine⟨b,cap,cur.setIfInBounds j u,hv,h1,setCell_at h2 j u,h3,h4,by simpa using h5,?_⟩;rw[Array.toList_setIfInBounds,List.take_set_of_le (hj (by rw[hv];rfl))];exact h6
  ·exact⟨b,cap,cur,hv,h1,setCell_ne h2 hb j u,h3,h4,h5,h6⟩
theorem modify_modify {α:Type} (f g:α→α):∀ (l:List α) (k:Nat),(l.modify k f).modify k g=l.modify k fun x=>g (f x)
 | [],k=>by cases k<;>rfl
 | x::l,0=>rfl
 | x::l,k+1=>by
  show x::(l.modify k f).modify k g=x::l.modify k _;rw[modify_modify f g l k]
theorem OwnRd.strike {B:Nat} {w:World} {base:Nat} {v:Value} {sigs:List SigX} (h:OwnRd w base 89 (fdSigN B) 19 v sigs) (g k e:Nat) (he:e < 2) {C:Array Value} (hg:w.heap[g]? = some (.cells C 89)) :
  ∃ sigs',OwnRd (w.setCell ⟨g,k*19+e,none⟩ (.int .i64 0)) base 89 (fdSigN B) 19 v sigs'∧(v.ownBlock=some g→sigs' = sigs.modify k (zE e))∧(sigs' = sigs∨sigs' = sigs.modify k (zE e)):=by
 obtain⟨rows,h1,h2⟩:=h;have hlen:=h2.len;have hs:∀ s cs,fdSigN B w s cs→fdSigN B (w.setCell ⟨g,k*19+e,none⟩ (.int .i64 0)) s cs:=fun s cs ⟨u,e1,ho⟩=>⟨u,e1,ho.setAt hg (by decide) _ _⟩
 by_cases hv:v.ownBlock=some g
 ·by_cases hk:k < rows.length
  ·obtain⟨b,cap,hvv,-⟩:=h1.block (by omega);have hb:b=g:=(by rw[hvv]at hv;simpa [Value.ownBlock]using hv);subst hb;subst hvv;obtain⟨r,hr⟩:∃ r:Row 19,r.1=rows[k].1.set e (.int .i64 0):=⟨⟨rows[k].1.set e (.int .i64 0),by rw[List.length_set];exact rows[k].2⟩,rfl⟩
   have hk':k < sigs.length:=(by omega);refine⟨sigs.modify k (zE e),⟨rows.set k r,h1.setCellRow hk (by omega) _ r hr,?_⟩,fun _=>rfl,.inr rfl⟩;rw[modify_set _ _ _ hk'];refine(h2.mono fun s r' hr'=>hs _ _ hr').set ?_;obtain⟨u,e1,ho⟩:=hs _ _ (h2.get hk' hk);rw[hr,e1];unfold zE;rcases (show e=0∨e=1 by omega)with rfl|rfl
   ·exact⟨u,rfl,ho⟩
   ·exact⟨u,rfl,ho⟩
  ·refine⟨sigs,⟨rows,h1.setBeyond g _ _ fun _=>?_,h2.mono fun s r' hr'=>hs _ _ hr'⟩,fun _=>(modify_out _ _ _ (by omega)).symm,.inl rfl⟩;have:rows.length*19≤k*19:=Nat.mul_le_mul_right _ (by omega);omega
 ·exact⟨sigs,⟨rows,h1.setBeyond g _ _ fun h=>absurd h hv,h2.mono fun s r' hr'=>hs _ _ hr'⟩,fun h=>absurd h hv,.inl rfl⟩
structure StruckM (g k e:Nat) (m m':MsgD) (cs:List Value):Prop where
 bare:zMsg m' = zMsg m
 fix:zMsg m=m→m' = m
 line:m'.line=m.line
 col:m'.col=m.col
 row:∀ v,cs=(m.cells v).toList→cs=(m'.cells v).toList
 own:∀ v,cs=(m.cells v).toList→v.ownBlock=some g→m'.sigs=m.sigs.modify k (zE e)
theorem msg_slot {m m':MsgD} {u v:Value} (h:(m.cells u).toList=(m'.cells v).toList):u=v:=by
 have:=congrArg (fun l:List Value=>l[7]?) h;exact Option.some.inj this
theorem struckM {B:Nat} {w:World} {m:MsgD} {cs:List Value} (h:fdMsgN B w m cs) (g k e:Nat) (he:e < 2) {C:Array Value} (hg:w.heap[g]? = some (.cells C 89)) :
  ∃ m',fdMsgN B (w.setCell ⟨g,k*19+e,none⟩ (.int .i64 0)) m' cs∧StruckM g k e m m' cs:=by
 obtain⟨v,rfl,ho⟩:=h;obtain⟨sigs',h1,h3,h2⟩:=ho.strike g k e he hg;refine⟨{ m with sigs:=sigs' },⟨v,rfl,h1⟩,⟨?_,fun hz=>?_,rfl,rfl,fun u hu=>hu,fun u hu hb=>?_⟩⟩
 ·unfold zMsg;rcases h2 with rfl|rfl
  ·rfl
  ·simp only[modify_map zSig (zE e) (zSig_zE e)]
 ·rcases h2 with rfl|rfl
  ·rfl
  ·have hs:m.sigs.map zSig=m.sigs:=congrArg MsgD.sigs hz;have hall:∀ s∈m.sigs,zE e s=s:=fun s hs'=>by
    obtain⟨j,hj,rfl⟩:=List.mem_iff_getElem.1 hs';refine zE_fix e _ ?_;have:=congrArg (fun l=>l[j]?) hs;simp only[List.getElem?_map,List.getElem?_eq_getElem hj,Option.map_some,Option.some.injEq]at this;exact this
   rw[modify_fix _ _ _ hall]
 ·have:=msg_slot hu;subst this;exact h3 hb
theorem All2.change {α β:Type} {R R':α→β→Prop} {P:α→α→β→Prop} {xs:List α} {ys:List β} (h:All2 R xs ys) (hs:∀ x y,R x y→∃ x',R' x' y∧P x x' y) :
  ∃ xs',All2 R' xs' ys∧xs'.length=xs.length∧∀ j (h1:j < xs.length) (h2:j < xs'.length) (h3:j < ys.length),P xs[j] xs'[j] ys[j]:=by
 induction h with
 | nil=>exact⟨[],.nil,rfl,fun j h1=>by simp at h1⟩
 | cons a _ ih=>
  obtain⟨x',h1,h2⟩:=hs _ _ a;obtain⟨xs',h3,h4,h5⟩:=ih;refine⟨x' :: xs',.cons h1 h3,by simp[h4],fun j k1 k2 k3=>?_⟩;cases j with
  | zero=>exact h2
  | succ j=>exact h5 j (by simpa using k1) (by simpa using k2) (by simpa using k3)
theorem OwnRd.struck {B:Nat} {w:World} {base:Nat} {vm v:Value} {ms:List MsgD} (h:OwnRd w base 72 (fdMsgN B) 8 vm ms) {i k g:Nat} {C:Array Value} (hg:w.heap[g]? = some (.cells C 89)) (hi:i < ms.length)
  (hv:∃ b cap,vm=.slice (some ⟨b,0,none⟩) ms.length cap∧w.rangeAt b (i*8) (ms[i].cells v).toList) (hb:v.ownBlock=some g) :
  ∃ ms',OwnRd ((w.setCell ⟨g,k*19,none⟩ (.int .i64 0)).setCell ⟨g,k*19+1,none⟩ (.int .i64 0)) base 72 (fdMsgN B) 8 vm ms'∧ms'.length=ms.length∧ms'.map zMsg=ms.map zMsg ∧
   (∀ j (h1:j < ms.length) (h2:j < ms'.length),zMsg ms[j]=ms[j]→ms'[j]=ms[j])∧(∀ h2:i < ms'.length,ms'[i].sigs=ms[i].sigs.modify k zSig∧ms'[i].line=ms[i].line∧ms'[i].col=ms[i].col):=by
 obtain⟨rows,h1,h2⟩:=h;have hlen:=h2.len;have hg2:=setCell_at hg (k*19+0) (.int .i64 0);obtain⟨m1,a1,l1,p1⟩:=h2.change (P:=fun x x' (r:Row 8)=>StruckM g k 0 x x' r.1) fun x r hr=>struckM hr g k 0 (by decide) hg
 obtain⟨m2,a2,l2,p2⟩:=a1.change (P:=fun x x' (r:Row 8)=>StruckM g k 1 x x' r.1) fun x r hr=>struckM hr g k 1 (by decide) hg2
 have hr:rows[i].1=(ms[i].cells v).toList:=by
  obtain⟨b,cap,rfl,hrg⟩:=hv;obtain⟨a,c,hva,hs⟩:=h1.shape;obtain⟨b2,o,rfl,hb2,hc⟩:=SlOf.cells hs Row.en_len (by decide) (show i < rows.length by omega);simp only[Value.slice.injEq,Option.some.injEq,Addr.mk.injEq]at hva;obtain⟨⟨rfl,rfl,-⟩,-,-⟩:=hva;refine List.ext_getElem? fun j=>?_
  by_cases hj:j < 8
  ·have e1:=hc j hj;rw[Nat.zero_add]at e1;have e2:=hrg j _ (List.getElem?_eq_getElem (show j < (ms[i].cells v).toList.length from hj));rw[e2]at e1;rw[List.getElem?_eq_getElem (show j < (ms[i].cells v).toList.length from hj)];exact e1.symm
  ·rw[List.getElem?_eq_none (by rw[rows[i].2];omega),List.getElem?_eq_none (show(ms[i].cells v).toList.length≤j by show 8≤j;omega)]
 refine⟨m2,⟨rows,?_,a2⟩,by omega,?_,fun j k1 k2 hz=>?_,fun k2=>?_⟩
 ·exact(h1.apt (by decide) hg (fun b _ hne=>Below.heap_setCell _ _ _ _ hne)).apt (by decide) hg2 (fun b _ hne=>Below.heap_setCell _ _ _ _ hne)
 ·refine List.ext_getElem (by simp;omega) fun j k1 k2=>?_
  simp only[List.length_map]at k1 k2;simp only[List.getElem_map];rw[(p2 j (by omega) (by omega) (by omega)).bare,(p1 j (by omega) (by omega) (by omega)).bare]
 ·have q1:=(p1 j (by omega) (by omega) (by omega)).fix hz;have q2:=(p2 j (by omega) (by omega) (by omega)).fix (by rw[q1];exact hz);rw[q2,q1]
 ·have P1:=p1 i (by omega) (by omega) (by omega);have P2:=p2 i (by omega) (by omega) (by omega);refine⟨?_,by rw[P2.line,P1.line],by rw[P2.col,P1.col]⟩;rw[P2.own v (P1.row v hr) hb,P1.own v hr hb,modify_modify]
  congr 1
theorem OwnRd.at0 {α:Type} {rd:World→α→List Value→Prop} {w:World} {base:Nat} {T:TypeId} {n:Nat} {vm:Value} {xs:List α} (h:OwnRd w base T rd n vm xs) (hn:0 < n) {i:Nat} (hi:i < xs.length) :
  ∃ b cap,vm=.slice (some ⟨b,0,none⟩) xs.length cap∧base≤b∧b < w.heap.size∧(∃ C,w.heap[b]? = some (.cells C T))∧∃ cs:List Value,cs.length=n∧rd w xs[i] cs∧w.rangeAt b (i*n) cs:=by
 obtain⟨rows,h1,h2⟩:=h;have hlen:=h2.len;have hi':i < rows.length:=(by omega);rcases h1.2 with ⟨hv,h0⟩|⟨g,cap,cur,hv,hb,hg,-⟩
 ·omega
 ·obtain⟨a,c,hva,hs⟩:=h1.shape;obtain⟨b2,o,rfl,hb2,hc⟩:=SlOf.cells hs Row.en_len hn hi';rw[hv]at hva;simp only[Value.slice.injEq,Option.some.injEq,Addr.mk.injEq]at hva;obtain⟨⟨rfl,rfl,-⟩,-,-⟩:=hva;refine⟨g,cap,by rw[hv,hlen],hb,(gE hg),⟨cur,hg⟩,rows[i].1,rows[i].2,h2.get hi hi',fun j v hv'=>?_⟩;have hj:j < n:=by
   have:=(List.getElem?_eq_some_iff.1 hv').1;rw[rows[i].2]at this;exact this
  have:=hc j hj;rw[Nat.zero_add]at this;rw[this];exact hv'
theorem OwnRd.place {α:Type} {rd:World→α→List Value→Prop} {w:World} {base:Nat} {T:TypeId} {n m b cap:Nat} {xs:List α} (h:OwnRd w base T rd n (.slice (some ⟨b,0,none⟩) m cap) xs) (ha:Apt rd T) (hn:1 < n) {i:Nat} (hi:i < xs.length) (x':α)
  (hx:∀ w' cs,rd w' xs[i] cs→rd w' x' ((cs.set 0 (.int .i64 0)).set 1 (.int .i64 0))) :
  OwnRd ((w.setCell ⟨b,i*n,none⟩ (.int .i64 0)).setCell ⟨b,i*n+1,none⟩ (.int .i64 0)) base T rd n (.slice (some ⟨b,0,none⟩) m cap) (xs.set i x'):=by
 obtain⟨rows,h1,h2⟩:=h;have hlen:=h2.len;have hi':i < rows.length:=(by omega);obtain⟨c,hg⟩:∃ c,w.heap[b]? = some (.cells c T):=by
  rcases h1.2 with ⟨hv,h0⟩|⟨g,cap,cur,hv,hb,hg,-⟩
  ·omega
  ·simp only[Value.slice.injEq,Option.some.injEq,Addr.mk.injEq]at hv;obtain⟨⟨rfl,-,-⟩,-,-⟩:=hv;exact⟨cur,hg⟩
 have hg2:=setCell_at hg (i*n+0) (.int .i64 0);obtain⟨r,hr⟩:∃ r:Row n,r.1=rows[i].1.set 0 (.int .i64 0):=⟨⟨rows[i].1.set 0 (.int .i64 0),by rw[List.length_set];exact rows[i].2⟩,rfl⟩
 obtain⟨r2,hr2⟩:∃ r2:Row n,r2.1=r.1.set 1 (.int .i64 0):=⟨⟨r.1.set 1 (.int .i64 0),by rw[List.length_set];exact r.2⟩,rfl⟩
 have o1:=h1.setCellRow hi' (show 0 < n by omega) (.int .i64 0) r hr;have o2:=o1.setCellRow (k:=i) (by rw[List.length_set];exact hi') hn (.int .i64 0) r2 (by rw[hr2,List.getElem_set_self]);rw[List.set_set]at o2;refine⟨rows.set i r2,o2,?_⟩;have hk:∀ x cs,rd w x cs→rd ((w.setCell ⟨b,i*n+0,none⟩ (.int .i64 0)).setCell ⟨b,i*n+1,none⟩ (.int .i64 0)) x cs:=fun x cs hrd=>
  ha _ _ _ _ _ _ _ (ha _ _ _ _ _ _ _ hrd hg (by simp[World.setCell]) (fun k _ hne=>Below.heap_setCell _ _ _ _ hne)) hg2 (by simp[World.setCell]) (fun k _ hne=>Below.heap_setCell _ _ _ _ hne)
 refine(h2.mono fun x r' hr'=>hk _ _ hr').set ?_;rw[hr2,hr];exact hx _ _ (hk _ _ (h2.get hi hi'))
theorem msg_placed {B:Nat} {w:World} {m:MsgD} {cs:List Value} (h:fdMsgN B w m cs):fdMsgN B w { m with line:=0,col:=0 } ((cs.set 0 (.int .i64 0)).set 1 (.int .i64 0)):=by
 obtain⟨v,rfl,ho⟩:=h;exact⟨v,rfl,ho⟩
theorem tab_placed {B:Nat} {w:World} {t:TabD} {cs:List Value} (h:fdTabN B w t cs):fdTabN B w { t with line:=0,col:=0 } ((cs.set 0 (.int .i64 0)).set 1 (.int .i64 0)):=by
 obtain⟨v,rfl,ho⟩:=h;exact⟨v,rfl,ho⟩
def NodeD.ty:NodeD→TypeId
 | .ver _=>31
 | .sta _=>34
 | .msg _=>72
 | .tab _=>76
def NodeD.rank:NodeD→Nat
 | .ver _=>1
 | .sta _=>2
 | .msg _=>3
 | .tab _=>4
def NodeD.kname:NodeD→List UInt8
 | .ver _=>[118,101,114,115,105,111,110]
 | .sta _=>[115,116,97,116,105,111,110,115]
 | .msg _=>[109,101,115,115,97,103,101]
 | .tab _=>[116,97,98,108,101]
theorem rdMsg_one {w:World} {x:MsgD} {cs:List Value} (h:rdMsg w x cs):cs.toArray.size=8∧cs.toArray.all (·.oneCell')=true:=by
 obtain⟨a,cap,rfl,-⟩:=h;exact⟨rfl,by simpa using MsgD.cells_one x a x.sigs.length cap⟩
theorem rdTab_one {w:World} {x:TabD} {cs:List Value} (h:rdTab w x cs):cs.toArray.size=6∧cs.toArray.all (·.oneCell')=true:=by
 obtain⟨a,cap,rfl,-⟩:=h;exact⟨rfl,by simpa using TabD.cells_one x a x.rows.length cap⟩
theorem run_assert_same {P:Program} {t:TypeId} {fs:Array Field} (hu:P.underlying t=some (.struct fs)) (v:Value) (xT:TypeId) (w:World):(Instr.typeAssert (.iface t v) xT t true).run P w=.ok (.tuple #[v,.bool true]) w:=by
 unfold Instr.typeAssert;simp only[Sem.run_bind,run_underlying hu,Result.andThen];simp
theorem run_assert_other {P:Program} {t s:TypeId} {fs:Array Field} {z:Value} (hu:P.underlying s=some (.struct fs)) (hz:(P.info? s).map (·.zero)=some (some z)) (hne:t≠s) (v:Value) (xT:TypeId) (w:World):(Instr.typeAssert (.iface t v) xT s true).run P w=.ok (.tuple #[z,.bool false]) w:=by
 obtain⟨i,hi,hz⟩:=Option.map_eq_some_iff.1 hz;unfold Instr.typeAssert;simp only[Sem.run_bind,run_underlying hu,Result.andThen];simp[hne,zeroValue,typeInfo,hi,hz]
theorem asVV (v:Value) (xT:TypeId) (w:World):(Instr.typeAssert (.iface 31 v) xT 31 true).run prog w=.ok (.tuple #[v,.bool true]) w:=run_assert_same underlying31 v xT w
theorem asVS (v:Value) (xT:TypeId) (w:World):(Instr.typeAssert (.iface 31 v) xT 34 true).run prog w=.ok (.tuple #[.agg zeroStaD,.bool false]) w:=run_assert_other underlying34 (by kernel_rfl) (by decide) v xT w
theorem asVM (v:Value) (xT:TypeId) (w:World):(Instr.typeAssert (.iface 31 v) xT 72 true).run prog w=.ok (.tuple #[.agg zeroMsgD,.bool false]) w:=run_assert_other underlying72 (by kernel_rfl) (by decide) v xT w
theorem asVT (v:Value) (xT:TypeId) (w:World):(Instr.typeAssert (.iface 31 v) xT 76 true).run prog w=.ok (.tuple #[.agg zeroTabD,.bool false]) w:=run_assert_other underlying76 (by kernel_rfl) (by decide) v xT w
theorem asSV (v:Value) (xT:TypeId) (w:World):(Instr.typeAssert (.iface 34 v) xT 31 true).run prog w=.ok (.tuple #[.agg #[.int .i64 0,.int .i64 0,.string ⟨#[]⟩],.bool false]) w:=run_assert_other underlying31 (by kernel_rfl) (by decide) v xT w
theorem asSS (v:Value) (xT:TypeId) (w:World):(Instr.typeAssert (.iface 34 v) xT 34 true).run prog w=.ok (.tuple #[v,.bool true]) w:=run_assert_same underlying34 v xT w
theorem asSM (v:Value) (xT:TypeId) (w:World):(Instr.typeAssert (.iface 34 v) xT 72 true).run prog w=.ok (.tuple #[.agg zeroMsgD,.bool false]) w:=run_assert_other underlying72 (by kernel_rfl) (by decide) v xT w
theorem asST (v:Value) (xT:TypeId) (w:World):(Instr.typeAssert (.iface 34 v) xT 76 true).run prog w=.ok (.tuple #[.agg zeroTabD,.bool false]) w:=run_assert_other underlying76 (by kernel_rfl) (by decide) v xT w
theorem asMV (v:Value) (xT:TypeId) (w:World):(Instr.typeAssert (.iface 72 v) xT 31 true).run prog w=.ok (.tuple #[.agg #[.int .i64 0,.int .i64 0,.string ⟨#[]⟩],.bool false]) w:=run_assert_other underlying31 (by kernel_rfl) (by decide) v xT w
theorem asMS (v:Value) (xT:TypeId) (w:World):(Instr.typeAssert (.iface 72 v) xT 34 true).run prog w=.ok (.tuple #[.agg zeroStaD,.bool false]) w:=run_assert_other underlying34 (by kernel_rfl) (by decide) v xT w
theorem asMM (v:Value) (xT:TypeId) (w:World):(Instr.typeAssert (.iface 72 v) xT 72 true).run prog w=.ok (.tuple #[v,.bool true]) w:=run_assert_same underlying72 v xT w
theorem asMT (v:Value) (xT:TypeId) (w:World):(Instr.typeAssert (.iface 72 v) xT 76 true).run prog w=.ok (.tuple #[.agg zeroTabD,.bool false]) w:=run_assert_other underlying76 (by kernel_rfl) (by decide) v xT w
theorem asTV (v:Value) (xT:TypeId) (w:World):(Instr.typeAssert (.iface 76 v) xT 31 true).run prog w=.ok (.tuple #[.agg #[.int .i64 0,.int .i64 0,.string ⟨#[]⟩],.bool false]) w:=run_assert_other underlying31 (by kernel_rfl) (by decide) v xT w
theorem asTS (v:Value) (xT:TypeId) (w:World):(Instr.typeAssert (.iface 76 v) xT 34 true).run prog w=.ok (.tuple #[.agg zeroStaD,.bool false]) w:=run_assert_other underlying34 (by kernel_rfl) (by decide) v xT w
theorem asTM (v:Value) (xT:TypeId) (w:World):(Instr.typeAssert (.iface 76 v) xT 72 true).run prog w=.ok (.tuple #[.agg zeroMsgD,.bool false]) w:=run_assert_other underlying72 (by kernel_rfl) (by decide) v xT w
theorem asTT (v:Value) (xT:TypeId) (w:World):(Instr.typeAssert (.iface 76 v) xT 76 true).run prog w=.ok (.tuple #[v,.bool true]) w:=run_assert_same underlying76 v xT w
set_option maxRecDepth 100000 in theorem kind_any (n : NodeD) (C : Array Value) (w : World) :
  Calls prog 19 #[.iface n.ty (.agg C)] w fun e w'=>e=.returned (.agg #[.int .i64 (n.rank:Nat),.string ⟨n.kname.toArray⟩])∧Below w.heap.size w w':=by
 cases n
 all_goals
  unfold NodeD.ty NodeD.rank NodeD.kname;simp only;have hVV:=asVV;have hVS:=asVS;have hVM:=asVM;have hVT:=asVT;have hSV:=asSV;have hSS:=asSS;have hSM:=asSM;have hST:=asST;have hMV:=asMV;have hMS:=asMS;have hMM:=asMM;have hMT:=asMT;have hTV:=asTV;have hTS:=asTS;have hTM:=asTM;have hTT:=asTT;go_enter func19,ntmps19
  go_wp2_with fail;refine bodyPost_ret (v:=.agg #[_,_]) (by simp[results,results19,go_sem]) rfl ⟨rfl,?_⟩;exact(Below.refl w.heap.size w).alloc lrf _
inductive GatR where
 | bad (no at':Nat)
 | good (d:DbD)
def DbD.zero:DbD:=⟨false,⟨0,0,[]⟩,⟨0,0,[]⟩,[],[]⟩
def DbD.add (d:DbD):NodeD→DbD
 | .ver v=>{ d with has:=true,ver:=v }
 | .sta s=>{ d with sta:=s }
 | .msg m=>{ d with msgs:=d.msgs++[m] }
 | .tab t=>{ d with tabs:=d.tabs++[t] }
def gatB (i last:Nat) (n:NodeD):Bool:=decide (n.rank < last) || ((n.rank == 1 && decide (0 < i)) || ((n.rank == 2 && decide (2≤last)) || (decide (2 < n.rank) && !decide (2≤last))))
def gatL:Nat→Nat→DbD→List NodeD→GatR
 | i,last,d,[]=>if last < 2 then .bad 2 i else .good d
 | i,last,d,n::l=>if gatB i last n then .bad 4 i else gatL (i+1) n.rank (d.add n) l
def NodFit:NodeD→Prop
 | .ver _=>True
 | .sta s=>s.names.length≤4000000
 | .msg m=>m.sigs.length≤4000000∧∀ s∈m.sigs,s.rs.length≤4000000
 | .tab t=>t.rows.length≤4000000
def gatV (w:World) (R:GatR) (v:Value):Prop:=match R with
 | .bad no i=>v=.tuple #[.agg zeroDb,.iface 52 (.agg #[.int .i64 (no:Nat),.int .i64 0,.int .i64 (i:Nat)])]
 | .good d=>∃ C:Array Value,v=.tuple #[.agg C,.nilIface]∧fdDb w d C.toList
structure GatW (w0:World) (base:Nat) (ns:List (List UInt8)) (ms:List MsgD) (ts:List TabD) (w:World) (D:Array Value) (u v z:Value):Prop where
 bel:Below base w0 w
 res:w.heap[base]? = some (.cells zeroDb 38)
 blk:w.heap[base+1]? = some (.cells D 38)
 names:Owns w 0 9 1 enTx u ns
 msgs:OwnRd w base 72 fdMsg 8 v ms
 tabs:OwnRd w base 76 fdTab 6 z ts
section
variable {w0:World} {base:Nat} {ns:List (List UInt8)} {ms:List MsgD} {ts:List TabD} {w w':World} {D:Array Value} {u v z:Value}
theorem GatW.lt (h:GatW w0 base ns ms ts w D u v z):base+1 < w.heap.size:=(gE h.blk)
theorem GatW.keep (h:GatW w0 base ns ms ts w D u v z) (hb:Below w.heap.size w w'):GatW w0 base ns ms ts w' D u v z:=
 ⟨h.bel.trans (hb.mono (by have:=h.lt;omega)),Blk.kindAt h.res hb,Blk.kindAt h.blk hb,h.names.keep hb lrf,h.msgs.keep last_fdMsg hb,h.tabs.keep last_fdTab hb⟩
theorem GatW.alloc (h:GatW w0 base ns ms ts w D u v z) (o:Obj):GatW w0 base ns ms ts (w.alloc o) D u v z:=h.keep ((Below.refl w.heap.size w).alloc lrf o)
theorem GatW.drew (h:GatW w0 base ns ms ts w D u v z):GatW w0 base ns ms ts w.drew D u v z:=h.keep (Below.refl w.heap.size w).drew
theorem GatW.set (h:GatW w0 base ns ms ts w D u v z) (j:Nat) (x:Value):GatW w0 base ns ms ts (w.setCell ⟨base+1,j,none⟩ x) (D.setIfInBounds j x) u v z:=
 ⟨below_set h.bel (Nat.le_succ _) j x,setCell_ne h.res (show base≠base+1 by omega) j x,setCell_at h.blk j x,h.names.setAt h.blk (by decide) j x,h.msgs.setAt h.blk (by decide) (apt_fdMsg (by decide) (by decide)) j x,h.tabs.setAt h.blk (by decide) (apt_fdTab (by decide)) j x⟩
theorem GatW.names' (h:GatW w0 base ns ms ts w D u v z) {ns':List (List UInt8)} {u':Value} (hu:Owns w 0 9 1 enTx u' ns'):GatW w0 base ns' ms ts w D u' v z:=⟨h.bel,h.res,h.blk,hu,h.msgs,h.tabs⟩
theorem GatW.msgs' (h:GatW w0 base ns ms ts w D u v z) {v':Value} {m:MsgD} (hv:OwnRd w' base 72 fdMsg 8 v' (ms++[m])) (hbel:Below base w0 w') (hg:w.grownBy w' v.ownBlock):GatW w0 base ns (ms++[m]) ts w' D u v' z:=by
 obtain⟨rows,hr,-⟩:=h.msgs;exact⟨hbel,heap_grown2 h.res hr (by decide) hg,heap_grown2 h.blk hr (by decide) hg,h.names.grown2 hr (by decide) hg,hv,h.tabs.grown2 hr (by decide) last_fdTab (apt_fdTab (by decide)) hg⟩
theorem GatW.tabs' (h:GatW w0 base ns ms ts w D u v z) {z':Value} {m:TabD} (hv:OwnRd w' base 76 fdTab 6 z' (ts++[m])) (hbel:Below base w0 w') (hg:w.grownBy w' z.ownBlock):GatW w0 base ns ms (ts++[m]) w' D u v z':=by
 obtain⟨rows,hr,-⟩:=h.tabs;exact⟨hbel,heap_grown2 h.res hr (by decide) hg,heap_grown2 h.blk hr (by decide) hg,h.names.grown2 hr (by decide) hg,h.msgs.grown2 hr (by decide) last_fdMsg (apt_fdMsg (by decide) (by decide)) hg,hv⟩
end
theorem zeroDb_one:zeroDb.all (·.oneCell')=true:=by simp[Value.oneCell']
theorem fieldK (a b:Value) (w:World):(Instr.field 66 (.agg #[a,b]) 0).run prog w=.ok a w:=by
 unfold Instr.field;simp[Sem.run_bind,run_underlying underlying66,asAgg,part,isAgg,run_underlying underlying3,Result.andThen]
set_option maxRecDepth 100000 in theorem gather_any (l : List NodeD) (hl : ∀ n ∈ l, NodFit n) (n : Nat) (hn : n = l.length) (hr : l.length ≤ 100000000) (a : Option Addr) (cap : Nat) (w : World) (hs : SlRd w rdNode 1 a cap l) :
  Calls prog 7 #[.slice a n cap] w fun e w'=>∃ v,e=.returned v∧gatV w' (gatL 0 0 DbD.zero l) v∧Below w.heap.size w w':=by
 subst hn;obtain⟨R,hR⟩:∃ R,R=gatL 0 0 DbD.zero l:=⟨_,rfl⟩
 rw[← hR];have HR:=Qh hR;have hu:=underlying38;have hfk:=fieldK;clear hR;have hVV:=asVV;have hVS:=asVS;have hVM:=asVM;have hVT:=asVT;have hSV:=asSV;have hSS:=asSS;have hSM:=asSM;have hST:=asST;have hMV:=asMV;have hMS:=asMS;have hMM:=asMM;have hMT:=asMT;have hTV:=asTV;have hTS:=asTS;have hTM:=asTM;have hTT:=asTT;go_enter func7,ntmps7
 go_wp2_with fail;go_loopw [3,5,16] (fun er lv i wr=>∃ (k last:Nat) (d:DbD) (u v z:Value),k≤l.length∧er=.nilIface∧i=.int .i64 (k:Nat)∧lv=.int .i64 (last:Nat)∧last≤4∧(0 < k→1≤last)∧(k=0→last=0)∧R=gatL k last d (l.drop k)∧d.msgs.length≤k∧d.tabs.length≤k∧GatW w w.heap.size d.sta.names d.msgs d.tabs wr (d.cells u v z) u v z) (fun _ _ i _=>l.length - (intOf i).toNat)
 case atStart=>
  refine⟨0,0,DbD.zero,.slice none 0 0,.slice none 0 0,.slice none 0 0,Nat.zero_le _,rfl,rfl,rfl,by decide,fun h=>by omega,fun _=>rfl,by rw[HR.out];rfl,by simp[DbD.zero],by simp[DbD.zero],?_⟩;obtain⟨h1,h2,h3,h4⟩:=box2 w zeroDb zeroDb 38 38;refine⟨h4,?_,?_,Owns.nil _ _ _ _ _,OwnRd.nil _ _ _ _ _,OwnRd.nil _ _ _ _ _⟩
  ·show((w.alloc (.cells zeroDb 38)).alloc (.cells zeroDb 38)).heap[w.heap.size]? = _;rw[Below.heap_alloc _ _ _ (by simp)];exact heap_alloc_new w _
  ·have h5:=heap_alloc_new (w.alloc (.cells zeroDb 38)) (.cells zeroDb 38);rw[World.size_alloc]at h5;exact h5
 case round=>
  obtain⟨k,last,d,u,v,z,hk,rfl,rfl,rfl,hla,hkl,hk0,hRk,hm1,ht1,hg⟩:=hrel;have hsz1:=hg.lt;by_cases hlt:(k:Int) < l.length
  ·have hlt':k < l.length:=(by omega);obtain⟨bb,oo,rfl,hb,cs,hcl,hrd,hrg⟩:=SlRd.at (hs.keep last_rdNode hg.bel) (by decide) hlt';have hfit:=hl _ (List.getElem_mem hlt');rw[List.drop_eq_getElem_cons hlt']at hRk;unfold gatL at hRk;generalize l[k]=y at *;have HRK:=Qh hRk;have HG:=Qh hg;clear hRk hg;cases y with
   | ver y=>
    obtain rfl:cs=[.iface 31 (.agg #[.int .i64 y.line,.int .i64 y.col,.string ⟨y.text.toArray⟩])]:=hrd;have hc:wr.cell? ⟨bb,oo+k,none⟩=some (.iface 31 (.agg #[.int .i64 y.line,.int .i64 y.col,.string ⟨y.text.toArray⟩])):=(by simpa using hrg 0 _ rfl);have ck:=fun W=>kind_any (.ver y) #[.int .i64 y.line,.int .i64 y.col,.string ⟨y.text.toArray⟩] W
    simp only[NodeD.ty,NodeD.rank,NodeD.kname]at ck;clear hrg hcl;go_wp2_with fail;with_reducible refine(ck _).mono ?_
    rintro e w1 ⟨rfl,hb1⟩;have hg1:=HG.out.keep hb1;have B2:Blk w1 w.heap.size zeroDb:=⟨_,hg1.res⟩
    have B4:Blk w1 (w.heap.size+1) (d.cells u v z):=⟨_,hg1.blk⟩
    have HG1:=Qh hg1;have HB1:=Qh hb1;clear hb1 hg1 ck hc HG;by_cases h0:(0:Int) < k
    ·clear B4;by_cases h1:(1:Int) < last;all_goals
      have HV:=Qh (show R=.bad 4 k by rw[HRK.out];unfold gatB;rw[decide_eq_true (show 0 < k by omega)];simp[NodeD.rank]);go_wp2_with (refine wpList_storeS (cs:=zeroDb) B2 38 (.tmp 2) (.tmp 56) db_size rfl zeroDb_one ?_)
      have hrun:=run_loadS (B2.row zeroDb) 38 _ hu rfl db_size;refine bodyPost_ret (v:=.tuple #[.agg zeroDb,.iface 52 (.agg #[.int .i64 4,.int .i64 0,.int .i64 (k:Nat)])]) (by simp[results,results7,asAddr,hrun]) rfl ⟨_,rfl,by rw[HV.out];rfl,below_row HG1.out.bel lrf zeroDb⟩
    ·obtain rfl:k=0:=by omega
     obtain rfl:last=0:=hk0 rfl;have HV:=Qh (show R=gatL 1 1 (d.add (.ver y)) (l.drop 1)by rw[HRK.out];rfl);have c0:=B4.cell 0 _ rfl;have r0:=B4.free 0;have c1:=B4.cell 1 _ rfl;have r1:=B4.free 1;have c2:=B4.cell 2 _ rfl;have r2:=B4.free 2;have c3:=B4.cell 3 _ rfl;have r3:=B4.free 3;have hlt4:=B4.lt;clear B4 B2 hs;go_wp2_with fail;go_region_with fail
     all_goals
      go_wp2_with fail;go_roundw;case rel=>
       refine⟨1,1,d.add (.ver y),u,v,z,by omega,rfl,rfl,rfl,by omega,fun _=>by omega,fun h=>by omega,HV.out,by simp only[DbD.add];omega,by simp only[DbD.add];omega,?_⟩;first
        | exact((((HG1.out.set 0 (.bool true)).set 1 (.int .i64 y.line)).set 2 (.int .i64 y.col)).set 3 (.string ⟨y.text.toArray⟩)).alloc _ |>.drew
        | exact((((HG1.out.set 1 (.int .i64 y.line)).set 2 (.int .i64 y.col)).set 3 (.string ⟨y.text.toArray⟩)).set 0 (.bool true)).alloc _ |>.drew
      case measure=>simp[intOf];omega
   | sta y=>
    obtain⟨C,rfl,hrd⟩:=hrd;obtain⟨a',c',eC,hsx⟩:=hrd;have eC2:C=#[.int .i64 y.line,.int .i64 y.col,.slice a' y.names.length c']:=Array.toList_inj.1 eC;clear eC;subst eC2;have hfit:y.names.length≤4000000:=hfit;have hc:wr.cell? ⟨bb,oo+k,none⟩=some (.iface 34 (.agg #[.int .i64 y.line,.int .i64 y.col,.slice a' y.names.length c'])):=(by simpa using hrg 0 _ rfl);have ck:=fun W=>kind_any (.sta y) #[.int .i64 y.line,.int .i64 y.col,.slice a' y.names.length c'] W
    simp only[NodeD.ty,NodeD.rank,NodeD.kname]at ck;clear hrg hcl;go_wp2_with fail;with_reducible refine(ck _).mono ?_
    rintro e w1 ⟨rfl,hb1⟩;have hg1:=HG.out.keep hb1;have B2:Blk w1 w.heap.size zeroDb:=⟨_,hg1.res⟩
    have B4:Blk w1 (w.heap.size+1) (d.cells u v z):=⟨_,hg1.blk⟩
    have HG1:=Qh hg1;have HB1:=Qh hb1;clear hb1 hg1 ck hc HG;have cS:=Qh (fun W (h:Below wr.heap.size wr W)=>nstations_any y W #[.int .i64 y.line,.int .i64 y.col,.slice a' y.names.length c'] ⟨a',c',rfl,hsx.keep h lrf⟩ (by omega));clear hsx;by_cases h0:(2:Int)≤last
    ·clear B4 cS;by_cases h1:(2:Int) < last;all_goals
      have HV:=Qh (show R=.bad 4 k by rw[HRK.out];unfold gatB;rw[decide_eq_true (show 2≤last by omega)];simp[NodeD.rank]);go_wp2_with (refine wpList_storeS (cs:=zeroDb) B2 38 (.tmp 2) (.tmp 56) db_size rfl zeroDb_one ?_)
      have hrun:=run_loadS (B2.row zeroDb) 38 _ hu rfl db_size;refine bodyPost_ret (v:=.tuple #[.agg zeroDb,.iface 52 (.agg #[.int .i64 4,.int .i64 0,.int .i64 (k:Nat)])]) (by simp[results,results7,asAddr,hrun]) rfl ⟨_,rfl,by rw[HV.out];rfl,below_row HG1.out.bel lrf zeroDb⟩
    ·have h1:¬ (2:Int) < last:=(by omega);have HV:=Qh (show R=gatL (k+1) 2 (d.add (.sta y)) (l.drop (k+1))by rw[HRK.out];unfold gatB;rw[decide_eq_false (show ¬ 2≤last by omega),decide_eq_false (show ¬ (NodeD.sta y).rank < last by simp only[NodeD.rank];omega)];rfl);have c4:=B4.cell 4 _ rfl;have r4:=B4.free 4;have c5:=B4.cell 5 _ rfl;have r5:=B4.free 5;have c6:=B4.cell 6 _ rfl;have r6:=B4.free 6;have hlt4:=B4.lt;have hbw:=bstep HB1.out ((Below.refl w1.heap.size w1).alloc lrf (.cells #[.int .i64 y.line,.int .i64 y.col,.slice a' y.names.length c'] 34)) lrf;have hg2:=HG1.out.alloc (.cells #[.int .i64 y.line,.int .i64 y.col,.slice a' y.names.length c'] 34);have HG2:=Qh hg2;clear B4 B2 hs hg2;generalize y.names.length=n1 at *;go_wp2_with fail;with_reducible refine(cS.out _ hbw).mono ?_
     rintro e w3 ⟨C3,rfl,hfd,hb3⟩;obtain⟨u',eC3,ho⟩:=hfd;obtain⟨a3,c3,rfl,-⟩:=ho.shape;obtain rfl:=Array.toList_inj.1 eC3;have HG3:=Qh (HG2.out.keep hb3);have B5:Blk w3 (w.heap.size+1) (d.cells u v z):=⟨_,HG3.out.blk⟩
     clear c4 c5 c6 r4 r5 r6 hlt4 hbw cS;have c4:=B5.cell 4 _ rfl;have c5:=B5.cell 5 _ rfl;have c6:=B5.cell 6 _ rfl;have r4:=B5.free 4;have r5:=B5.free 5;have r6:=B5.free 6;have HO:=Qh ho;clear B5 hb3 ho eC3;unfold StaD.cells;go_wp2_with fail;go_roundw;case rel=>
      refine⟨k+1,2,d.add (.sta y),.slice a3 y.names.length c3,v,z,by omega,rfl,by go_num,rfl,by omega,fun _=>by omega,fun h=>by omega,HV.out,by simp only[DbD.add];omega,by simp only[DbD.add];omega,?_⟩;exact((((HG3.out.names' HO.out).set 4 (.int .i64 y.line)).set 5 (.int .i64 y.col)).set 6 (.slice a3 y.names.length c3))
     case measure=>simp[intOf];omega
   | msg y=>
    obtain⟨C,rfl,hrd⟩:=hrd;obtain⟨hC8,hC1⟩:=rdMsg_one hrd;have hC8:C.size=8:=hC8;have hC1:C.all (·.oneCell')=true:=hC1;have hfit:=hfit;unfold NodFit at hfit;have hc:wr.cell? ⟨bb,oo+k,none⟩=some (.iface 72 (.agg C)):=(by simpa using hrg 0 _ rfl);have ck:=fun W=>kind_any (.msg y) C W
    simp only[NodeD.ty,NodeD.rank,NodeD.kname]at ck;clear hrg hcl;go_wp2_with fail;with_reducible refine(ck _).mono ?_
    rintro e w1 ⟨rfl,hb1⟩;have hg1:=HG.out.keep hb1;have B2:Blk w1 w.heap.size zeroDb:=⟨_,hg1.res⟩
    have HG1:=Qh hg1;have cM:=Qh (fun W (h:Below wr.heap.size wr W)=>nmessage_any y W C (last_rdMsg _ _ _ _ hrd h) hfit.1 hfit.2);have HB1:=Qh hb1;clear hb1 hg1 ck hc HG hrd;by_cases h0:(3:Int) < last
    ·clear cM;have HV:=Qh (show R=.bad 4 k by rw[HRK.out];unfold gatB;rw[decide_eq_true (show(NodeD.msg y).rank < last by simp only[NodeD.rank];omega)];rfl);go_wp2_with (refine wpList_storeS (cs:=zeroDb) B2 38 (.tmp 2) (.tmp 56) db_size rfl zeroDb_one ?_)
     have hrun:=run_loadS (B2.row zeroDb) 38 _ hu rfl db_size;refine bodyPost_ret (v:=.tuple #[.agg zeroDb,.iface 52 (.agg #[.int .i64 4,.int .i64 0,.int .i64 (k:Nat)])]) (by simp[results,results7,asAddr,hrun]) rfl ⟨_,rfl,by rw[HV.out];rfl,below_row HG1.out.bel lrf zeroDb⟩
    by_cases h2:¬ (2:Int)≤last
    ·clear cM;have hb2:decide ((2:Int)≤(last:Nat))=false:=decide_eq_false h2;have HV:=Qh (show R=.bad 4 k by rw[HRK.out];unfold gatB;rw[decide_eq_false (show ¬ 2≤last by omega)];simp[NodeD.rank]);go_wp2_with (refine wpList_storeS (cs:=zeroDb) B2 38 (.tmp 2) (.tmp 56) db_size rfl zeroDb_one ?_)
     have hrun:=run_loadS (B2.row zeroDb) 38 _ hu rfl db_size;refine bodyPost_ret (v:=.tuple #[.agg zeroDb,.iface 52 (.agg #[.int .i64 4,.int .i64 0,.int .i64 (k:Nat)])]) (by simp[results,results7,asAddr,hrun]) rfl ⟨_,rfl,by rw[HV.out];rfl,below_row HG1.out.bel lrf zeroDb⟩
    have HV:=Qh (show R=gatL (k+1) 3 (d.add (.msg y)) (l.drop (k+1))by rw[HRK.out];unfold gatB;rw[decide_eq_true (show 2≤last by omega),decide_eq_false (show ¬ (NodeD.msg y).rank < last by simp only[NodeD.rank];omega)];rfl);have hb2:decide ((2:Int)≤(last:Nat))=true:=decide_eq_true (by omega);obtain⟨nb,-,hbn⟩:=box1 w1 C 72;have HG2:=Qh (HG1.out.alloc (.cells C 72));have hbw:=bstep HB1.out hbn lrf;clear hbn HG1 HB1 HRK;have hum:=underlying72;have nbz:Blk (w1.alloc (.cells zeroMsgD 72)) w1.heap.size zeroMsgD:=Blk.new _ _ _;go_wp2_with (refine wpList_storeS (cs:=C) nbz 72 (.tmp 12) (.tmp 76) (by rw[hC8];exact msg_size) (by rw[hC8];rfl) hC1 ?_)
    clear nbz;rw[World.setRow_alloc_new];have hcv:=(show Blk (w1.alloc (.cells C 72)) (w.heap.size+1) (d.cells u v z)from ⟨_,HG2.out.blk⟩).cell 7 v rfl;generalize w1.alloc (.cells C 72)=W2 at *;refine wp_region_heldL 7 (fun (w':World)=>w'.cell? ⟨w.heap.size+1,7,none⟩=some v) (by kernel_rfl) hcv (fun hHeld=>?_);refine hL 0 ?_;try simp only[spt]
    refine hL 1 ?_;try simp only[spt]
    refine heldL_call 2 rfl (by kernel_rfl) (fun K hK=>?_);refine step_loadS (k:=w1.heap.size) (cs:=C) nb 72 (.tmp 12) hum (by rw[hC8];exact msg_size) ?_;clear hHeld;refine hK.out _ _ ?_ (fun hHeld=>?_)
    ·exact hcv
    clear hK K;try simp only[spt]
    refine heldL_call 3 rfl (by kernel_rfl) (fun K hK=>?_);go_simp;with_reducible refine(cM.out W2.drew hbw.drew).mono ?_
    rintro e w3 ⟨D6,rfl,hfd,hb3⟩;clear hHeld;refine hK.out _ _ ?_ (fun hHeld=>?_)
    ·exact cell_keep' (w:=W2.drew) hcv hb3
    clear hK K;try simp only[spt]
    refine heldL_call 4 rfl (by kernel_rfl) (fun K hK=>?_);have hD6:D6.size=8:=(by have:=fdMsg_size hfd;rwa [Array.length_toList]at this);have hD1:=fdMsg_one hfd;have hfold:=fold_set zeroMsgD D6 8 hD6 rfl;have HG3:=Qh (HG2.out.drew.keep hb3);have hcv3:=cell_keep' (w:=W2.drew) hcv hb3;have hcv4:=cell_keep' hcv3 ((Below.refl w3.heap.size w3).alloc lrf (.cells D6 72));go_simp;clear hHeld;refine hK.out _ _ ?_ (fun hHeld=>?_)
    ·exact hcv4
    clear hK K;try simp only[spt]
    refine heldL_call 5 rfl (by kernel_rfl) (fun K hK=>?_);have HG4:=Qh (HG3.out.alloc (.cells D6 72));refine step_append_rd last_fdMsg msgs_ty d.msgs y (g:=w3.heap.size) (cells:=D6) HG4.out.msgs HG4.out.bel lrf (by omega) (heap_alloc_new w3 _) (last_fdMsg _ _ _ _ hfd ((Below.refl w3.heap.size w3).alloc lrf _)) hD6 hD1 (apt_fdMsg (by decide) (by decide)) ?_;rintro v5 w5 hown5 hb5 hgr5 -;obtain⟨a5,n5,c5,hv5⟩:∃ a n c,v5=.slice a n c:=by obtain⟨a5,c5,e,-⟩:=hown5.shape;exact⟨_,_,_,e⟩
    subst hv5;have HG5:=Qh (HG4.out.msgs' hown5 hb5 hgr5);have B5:Blk w5 (w.heap.size+1) (d.cells u v z):=⟨_,HG5.out.blk⟩
    have hcv5:=B5.cell 7 v rfl;have hfr5:=B5.free 7;clear hown5 hb5 hgr5 B5 hfold;clear hHeld;refine hK.out _ _ ?_ (fun hHeld=>?_)
    ·exact hcv5
    clear hK K;try simp only[spt]
    refine hL 6 ?_;try simp only[spt]
    refine heldL_last 7 rfl (by kernel_rfl) (by kernel_rfl) (fun K hK=>?_);go_simp;refine hK.out _ _ ?_;clear hK K;try simp only[spt]
    refine wpAnyL_done (by kernel_rfl) ?_ _;have HG6:=Qh (HG5.out.set 7 (.slice a5 n5 c5));clear hcv hcv3 hcv4 hcv5 hfr5 nb hbw hfd hb3;go_wp2_with fail;go_roundw;case rel=>
     refine⟨k+1,3,d.add (.msg y),u,(.slice a5 n5 c5),z,by omega,rfl,by go_num,rfl,by omega,fun _=>by omega,fun h=>by omega,HV.out,by first|(simp only[DbD.add];omega)|(simp only[DbD.add,List.length_append,List.length_cons,List.length_nil];omega),by first|(simp only[DbD.add];omega)|(simp only[DbD.add,List.length_append,List.length_cons,List.length_nil];omega),?_⟩;exact HG6.out
    case measure=>simp[intOf];omega
   | tab y=>
    obtain⟨C,rfl,hrd⟩:=hrd;obtain⟨hC8,hC1⟩:=rdTab_one hrd;have hC8:C.size=6:=hC8;have hC1:C.all (·.oneCell')=true:=hC1;have hfit:=hfit;unfold NodFit at hfit;have hc:wr.cell? ⟨bb,oo+k,none⟩=some (.iface 76 (.agg C)):=(by simpa using hrg 0 _ rfl);have ck:=fun W=>kind_any (.tab y) C W
    simp only[NodeD.ty,NodeD.rank,NodeD.kname]at ck;clear hrg hcl;go_wp2_with fail;with_reducible refine(ck _).mono ?_
    rintro e w1 ⟨rfl,hb1⟩;have hg1:=HG.out.keep hb1;have B2:Blk w1 w.heap.size zeroDb:=⟨_,hg1.res⟩
    have HG1:=Qh hg1;have cM:=Qh (fun W (h:Below wr.heap.size wr W)=>ntable_any y W C (last_rdTab _ _ _ _ hrd h) (by omega));have HB1:=Qh hb1;clear hb1 hg1 ck hc HG hrd;by_cases h2:¬ (2:Int)≤last
    ·clear cM;have hb2:decide ((2:Int)≤(last:Nat))=false:=decide_eq_false h2;have h0:¬ (4:Int) < last:=(by omega);have HV:=Qh (show R=.bad 4 k by rw[HRK.out];unfold gatB;rw[decide_eq_false (show ¬ 2≤last by omega)];simp[NodeD.rank]);go_wp2_with (refine wpList_storeS (cs:=zeroDb) B2 38 (.tmp 2) (.tmp 56) db_size rfl zeroDb_one ?_)
     have hrun:=run_loadS (B2.row zeroDb) 38 _ hu rfl db_size;refine bodyPost_ret (v:=.tuple #[.agg zeroDb,.iface 52 (.agg #[.int .i64 4,.int .i64 0,.int .i64 (k:Nat)])]) (by simp[results,results7,asAddr,hrun]) rfl ⟨_,rfl,by rw[HV.out];rfl,below_row HG1.out.bel lrf zeroDb⟩
    have h0:¬ (4:Int) < last:=(by omega);have HV:=Qh (show R=gatL (k+1) 4 (d.add (.tab y)) (l.drop (k+1))by rw[HRK.out];unfold gatB;rw[decide_eq_true (show 2≤last by omega),decide_eq_false (show ¬ (NodeD.tab y).rank < last by simp only[NodeD.rank];omega)];rfl);have hb2:decide ((2:Int)≤(last:Nat))=true:=decide_eq_true (by omega);obtain⟨nb,-,hbn⟩:=box1 w1 C 76;have HG2:=Qh (HG1.out.alloc (.cells C 76));have hbw:=bstep HB1.out hbn lrf;clear hbn HG1 HB1 HRK;have hum:=underlying76;have nbz:Blk (w1.alloc (.cells zeroTabD 76)) w1.heap.size zeroTabD:=Blk.new _ _ _;go_wp2_with (refine wpList_storeS (cs:=C) nbz 76 (.tmp 13) (.tmp 86) (by rw[hC8];exact tab_size) (by rw[hC8];rfl) hC1 ?_)
    clear nbz;rw[World.setRow_alloc_new];have hcv:=(show Blk (w1.alloc (.cells C 76)) (w.heap.size+1) (d.cells u v z)from ⟨_,HG2.out.blk⟩).cell 8 z rfl;generalize w1.alloc (.cells C 76)=W2 at *;refine wp_region_heldL 7 (fun (w':World)=>w'.cell? ⟨w.heap.size+1,8,none⟩=some z) (by kernel_rfl) hcv (fun hHeld=>?_);refine hL 0 ?_;try simp only[spt]
    refine hL 1 ?_;try simp only[spt]
    refine heldL_call 2 rfl (by kernel_rfl) (fun K hK=>?_);refine step_loadS (k:=w1.heap.size) (cs:=C) nb 76 (.tmp 13) hum (by rw[hC8];exact tab_size) ?_;clear hHeld;refine hK.out _ _ ?_ (fun hHeld=>?_)
    ·exact hcv
    clear hK K;try simp only[spt]
    refine heldL_call 3 rfl (by kernel_rfl) (fun K hK=>?_);go_simp;with_reducible refine(cM.out W2.drew hbw.drew).mono ?_
    rintro e w3 ⟨D6,rfl,hfd,hb3⟩;clear hHeld;refine hK.out _ _ ?_ (fun hHeld=>?_)
    ·exact cell_keep' (w:=W2.drew) hcv hb3
    clear hK K;try simp only[spt]
    refine heldL_call 4 rfl (by kernel_rfl) (fun K hK=>?_);have hD6:D6.size=6:=(by have:=fdTab_size hfd;rwa [Array.length_toList]at this);have hD1:=fdTab_one hfd;have hfold:=fold_set zeroTabD D6 6 hD6 rfl;have HG3:=Qh (HG2.out.drew.keep hb3);have hcv3:=cell_keep' (w:=W2.drew) hcv hb3;have hcv4:=cell_keep' hcv3 ((Below.refl w3.heap.size w3).alloc lrf (.cells D6 76));go_simp;clear hHeld;refine hK.out _ _ ?_ (fun hHeld=>?_)
    ·exact hcv4
    clear hK K;try simp only[spt]
    refine heldL_call 5 rfl (by kernel_rfl) (fun K hK=>?_);have HG4:=Qh (HG3.out.alloc (.cells D6 76));refine step_append_rd last_fdTab tabs_ty d.tabs y (g:=w3.heap.size) (cells:=D6) HG4.out.tabs HG4.out.bel lrf (by omega) (heap_alloc_new w3 _) (last_fdTab _ _ _ _ hfd ((Below.refl w3.heap.size w3).alloc lrf _)) hD6 hD1 (apt_fdTab (by decide)) ?_;rintro v5 w5 hown5 hb5 hgr5 -;obtain⟨a5,n5,c5,hv5⟩:∃ a n c,v5=.slice a n c:=by obtain⟨a5,c5,e,-⟩:=hown5.shape;exact⟨_,_,_,e⟩
    subst hv5;have HG5:=Qh (HG4.out.tabs' hown5 hb5 hgr5);have B5:Blk w5 (w.heap.size+1) (d.cells u v z):=⟨_,HG5.out.blk⟩
    have hcv5:=B5.cell 8 z rfl;have hfr5:=B5.free 8;clear hown5 hb5 hgr5 B5 hfold;clear hHeld;refine hK.out _ _ ?_ (fun hHeld=>?_)
    ·exact hcv5
    clear hK K;try simp only[spt]
    refine hL 6 ?_;try simp only[spt]
    refine heldL_last 7 rfl (by kernel_rfl) (by kernel_rfl) (fun K hK=>?_);go_simp;refine hK.out _ _ ?_;clear hK K;try simp only[spt]
    refine wpAnyL_done (by kernel_rfl) ?_ _;have HG6:=Qh (HG5.out.set 8 (.slice a5 n5 c5));clear hcv hcv3 hcv4 hcv5 hfr5 nb hbw hfd hb3;go_wp2_with fail;go_roundw;case rel=>
     refine⟨k+1,4,d.add (.tab y),u,v,(.slice a5 n5 c5),by omega,rfl,by go_num,rfl,by omega,fun _=>by omega,fun h=>by omega,HV.out,by first|(simp only[DbD.add];omega)|(simp only[DbD.add,List.length_append,List.length_cons,List.length_nil];omega),by first|(simp only[DbD.add];omega)|(simp only[DbD.add,List.length_append,List.length_cons,List.length_nil];omega),?_⟩;exact HG6.out
    case measure=>simp[intOf];omega
  ·obtain rfl:k=l.length:=by omega
   rw[List.drop_length]at hRk;unfold gatL at hRk;have B2:Blk wr w.heap.size zeroDb:=⟨_,hg.res⟩
   have K2:=Qh hg.res;have HG:=Qh hg;by_cases h2:(last:Int) < 2
   ·have HV:=Qh (show R=.bad 2 l.length by rw[hRk,if_pos (show last < 2 by omega)]);clear hRk hg;go_wp2_with (refine wpList_storeS (cs:=zeroDb) B2 38 (.tmp 2) (.tmp 97) db_size rfl zeroDb_one ?_)
    have hrun:=run_loadS (B2.row zeroDb) 38 _ hu rfl db_size;refine bodyPost_ret (v:=.tuple #[.agg zeroDb,.iface 52 (.agg #[.int .i64 2,.int .i64 0,.int .i64 (l.length:Nat)])]) (by simp[results,results7,asAddr,hrun]) rfl ⟨_,rfl,by rw[HV.out];rfl,below_row HG.out.bel lrf zeroDb⟩
   ·have HV:=Qh (show R=.good d by rw[hRk,if_neg (show ¬ last < 2 by omega)]);have B4:Blk wr (w.heap.size+1) (d.cells u v z):=⟨_,hg.blk⟩
    obtain⟨a1,c1,e1,-⟩:=hg.names.shape;obtain⟨a2,c2,e2,-⟩:=hg.msgs.shape;obtain⟨a3,c3,e3,-⟩:=hg.tabs.shape;have hsz:(d.cells u v z).size=9:=rfl;have hone:(d.cells u v z).all (·.oneCell')=true:=(by rw[e1,e2,e3];exact DbD.cells_one _ _ _ _ _ _ _ _ _ _);have HD:Hid (∃ D,D=d.cells u v z):=Qh ⟨_,rfl⟩;obtain⟨D,hD⟩:=HD.out;rw[← hD]at B4 hsz hone;have HDE:=Qh hD;clear hRk hg HD hD e1 e2 e3;go_wp2_with (first|(refine wpList_loadS B4 38 (.tmp 4) hu (by rw[hsz];exact db_size) ?_)|(refine wpList_storeS (cs:=D) B2 38 (.tmp 2) (.tmp 102) (by rw[hsz];exact db_size) (by rw[hsz];rfl) hone ?_))
    have hrun:=run_loadS (B2.row D) 38 _ hu rfl (by rw[hsz];exact db_size);refine bodyPost_ret (v:=.tuple #[.agg D,.nilIface]) (by simp[results,results7,asAddr,hrun]) rfl ⟨_,rfl,?_,below_row HG.out.bel lrf D⟩;rw[HV.out];refine⟨D,rfl,u,v,z,by rw[HDE.out],?_,?_,?_⟩
    ·exact Owns.apt HG.out.names (by decide) K2.out (fun b _ hne=>heap_setRow_other _ _ _ _ hne)
    ·exact(OwnRd.apt HG.out.msgs (by decide) (apt_fdMsg (by decide) (by decide)) K2.out (by simp[World.setRow]) (fun b _ hne=>heap_setRow_other _ _ _ _ hne)).fromBase (Nat.zero_le _)
    ·exact(OwnRd.apt HG.out.tabs (by decide) (apt_fdTab (by decide)) K2.out (by simp[World.setRow]) (fun b _ hne=>heap_setRow_other _ _ _ _ hne)).fromBase (Nat.zero_le _)
end Go.Proofs.YtkblpaabknjckaaGreatDoor
