/-
  A database without its places: the law's own function.
-/
import Derived.Test.YtfflljgnpfldfaaGreatDoorPtsM
set_option linter.all false
set_option maxHeartbeats 128000000
set_option maxRecDepth 100000
namespace Go.Proofs.YtfflljgnpfldfaaGreatDoor
open Go.Proofs.Tryz
open Go.RowKit
theorem wb {w:World} {k g:Nat} {C D:Array Value} {T U:TypeId} (h:w.heap[k]? = some (.cells C T)) (h':w.heap[g]? = some (.cells D U)) (hT:T≠U):k≠g:=by
 rintro rfl;rw[h]at h';cases h'
 exact hT rfl
structure oB (B k3:Nat) (d:aS) (u v z:Value) (w:World):Prop where
 b3:w.heap[k3]? = some (.cells (d.cells u v z) 33)
 b2:w.heap[B+1]? = some (.cells bf 33)
 nn:aG w B 9 1 dr u d.aR.names
 mm:aZ w B 39 (jK B) 8 v d.msgs
 tt:aZ w B 43 (nN B) 6 z d.tabs
 lt:B+1 < k3
theorem aZ.bound {α:Type} {rd:World→α→List Value→Prop} {w:World} {base:Nat} {T:TypeId} {n:Nat} {v:Value} {xs:List α} (h:aZ w base T rd n v xs):xs.length≤9223372036854775807:=by
 obtain⟨rows,h1,h2⟩:=h;have:=h2.len;by_cases h0:0 < rows.length
 ·obtain⟨g,cap,-,-,-,hle,hm⟩:=h1.block h0;omega
 ·omega
theorem oB.box {B k3:Nat} {d:aS} {u v z:Value} {w:World} (h:oB B k3 d u v z w) (d':aS) (j:Nat) (y:Value) (he:(d.cells u v z).setIfInBounds j y=d'.cells u v z) (h1:d'.aR.names=d.aR.names) (h2:d'.msgs=d.msgs) (h3:d'.tabs=d.tabs) :
  oB B k3 d' u v z (w.setCell ⟨k3,j,none⟩ y):=
 ⟨by rw[← he];exact setCell_at h.b3 j y,mV h.b2 (by have:=h.lt;omega) j y,
  by rw[h1];exact h.nn.setAt h.b3 ah j y,by rw[h2];exact h.mm.setAt h.b3 ah (lu B ah ah) j y,by rw[h3];exact h.tt.setAt h.b3 ah (mQ B ah) j y,h.lt⟩
theorem oB.msg {B k3:Nat} {d:aS} {u z:Value} {w:World} {b m cap:Nat} {D:Array Value} (h:oB B k3 d u (.slice (some ⟨b,0,none⟩) m cap) z w) (hb:w.heap[b]? = some (.cells D 39)) {i:Nat} (hi:i < d.msgs.length) :
  oB B k3 { d with msgs:=d.msgs.set i { d.msgs[i]with line:=0,ak:=0 } } u (.slice (some ⟨b,0,none⟩) m cap) z ((w.setCell ⟨b,i*8,none⟩ (.int .i64 0)).setCell ⟨b,i*8+1,none⟩ (.int .i64 0)):=by
 have hb2:=setCell_at hb (i*8+0) (.int .i64 0);refine⟨mV (mV h.b3 (wb h.b3 hb ah) _ _) (wb h.b3 hb ah) _ _,mV (mV h.b2 (wb h.b2 hb ah) _ _) (wb h.b2 hb ah) _ _,
  (h.nn.setAt hb ah _ _).setAt hb2 ah _ _,h.mm.place (lu B ah ah) ah hi _ fun w' cs hr=>ajw hr,(h.tt.setAt hb ah (mQ B ah) _ _).setAt hb2 ah (mQ B ah) _ _,h.lt⟩
theorem oB.tab {B k3:Nat} {d:aS} {u v:Value} {w:World} {b m cap:Nat} {D:Array Value} (h:oB B k3 d u v (.slice (some ⟨b,0,none⟩) m cap) w) (hb:w.heap[b]? = some (.cells D 43)) {i:Nat} (hi:i < d.tabs.length) :
  oB B k3 { d with tabs:=d.tabs.set i { d.tabs[i]with line:=0,ak:=0 } } u v (.slice (some ⟨b,0,none⟩) m cap) ((w.setCell ⟨b,i*6,none⟩ (.int .i64 0)).setCell ⟨b,i*6+1,none⟩ (.int .i64 0)):=by
 have hb2:=setCell_at hb (i*6+0) (.int .i64 0);refine⟨mV (mV h.b3 (wb h.b3 hb ah) _ _) (wb h.b3 hb ah) _ _,mV (mV h.b2 (wb h.b2 hb ah) _ _) (wb h.b2 hb ah) _ _,
  (h.nn.setAt hb ah _ _).setAt hb2 ah _ _,(h.mm.setAt hb ah (lu B ah ah) _ _).setAt hb2 ah (lu B ah ah) _ _,h.tt.place (mQ B ah) ah hi _ fun w' cs hr=>ajx hr,h.lt⟩
theorem oB.sig {B k3:Nat} {d:aS} {u v vs z:Value} {w:World} {g:Nat} {D:Array Value} (h:oB B k3 d u v z w) (hg:w.heap[g]? = some (.cells D 63)) {i k:Nat} (hi:i < d.msgs.length)
  (hv:∃ b cap,v=.slice (some ⟨b,0,none⟩) d.msgs.length cap∧w.rangeAt b (i*8) (d.msgs[i].cells vs).toList) (hb:vs.ownBlock=some g) :
  ∃ iO:List bj,oB B k3 { d with msgs:=iO } u v z ((w.setCell ⟨g,k*19,none⟩ (.int .i64 0)).setCell ⟨g,k*19+1,none⟩ (.int .i64 0))∧iO.length=d.msgs.length∧iO.map iI=d.msgs.map iI ∧
   (∀ j (h1:j < d.msgs.length) (h2:j < iO.length),iI d.msgs[j]=d.msgs[j]→iO[j]=d.msgs[j])∧(∀ h2:i < iO.length,iO[i].sigs=d.msgs[i].sigs.modify k vZ∧iO[i].line=d.msgs[i].line∧iO[i].ak=d.msgs[i].ak):=by
 obtain⟨iO,o1,o2⟩:=h.mm.struck (k:=k) hg hi hv hb;have hg2:=setCell_at hg (k*19+0) (.int .i64 0);refine⟨iO,⟨mV (mV h.b3 (wb h.b3 hg ah) _ _) (wb h.b3 hg ah) _ _,mV (mV h.b2 (wb h.b2 hg ah) _ _) (wb h.b2 hg ah) _ _,
  (h.nn.setAt hg ah _ _).setAt hg2 ah _ _,o1,(h.tt.setAt hg ah (mQ B ah) _ _).setAt hg2 ah (mQ B ah) _ _,h.lt⟩,o2⟩
theorem oB.cell {B k3:Nat} {d:aS} {u v z:Value} {w:World} (h:oB B k3 d u v z w) (j:Nat) (y:Value) (hy:(d.cells u v z)[j]? = some y):w.cell? ⟨k3,j,none⟩=some y∧w.frozen? ⟨k3,j,none⟩=false:=by
 have:ai w k3 (d.cells u v z):=⟨_,h.b3⟩
 exact⟨this.cell j y hy,this.free j⟩
def rk (x:aS) (k:Nat) (ms:List bj):Prop:=ms.length=x.msgs.length∧ms.map iI=x.msgs.map iI∧∀ r (h:r < ms.length),r < k→iI ms[r]=ms[r]
def DC (k ns q:Nat) (ms:List bj):Prop:=∀ h:k < ms.length,ms[k].line=0∧ms[k].ak=0∧ms[k].sigs.length=ns∧∀ t (ht:t < ms[k].sigs.length),t < q→vZ ms[k].sigs[t]=ms[k].sigs[t]
theorem rk.start (x:aS):rk x 0 x.msgs:=⟨rfl,rfl,fun r h h0=>ae⟩
theorem rk.place {x:aS} {k:Nat} {ms:List bj} (h:rk x k ms) (hk:k < ms.length):rk x k (ms.set k { ms[k]with line:=0,ak:=0 }):=by
 obtain⟨h1,h2,h3⟩:=h;refine⟨by rw[kD];exact h1,?_,fun r hr hlt=>?_⟩
 ·rw[← h2];refine List.ext_getElem aB fun j k1 k2=>?_
  simp only[iw,kD]at k1 k2;simp only[Bz,List.getElem_set];split
  ·rename_i e
   subst e;rfl
  ·rfl
 ·rw[kD]at hr;simp only[List.getElem_set_ne (show k≠r by omega)];exact h3 r hr hlt
theorem DC.start {k:Nat} {ms:List bj} (hk:k < ms.length):DC k ms[k].sigs.length 0 (ms.set k { ms[k]with line:=0,ak:=0 }):=by
 intro h;simp only[List.getElem_set_self];exact⟨trivial,trivial,trivial,fun t ht h0=>ae⟩
theorem rk.struck {x:aS} {k:Nat} {ms iO:List bj} (h:rk x k ms) (h1:iO.length=ms.length) (h2:iO.map iI=ms.map iI) (h3:∀ j (k1:j < ms.length) (k2:j < iO.length),iI ms[j]=ms[j]→iO[j]=ms[j]):rk x k iO:=by
 refine⟨h1.trans h.1,h2.trans h.2.1,fun r hr hlt=>?_⟩;have hf:=h.2.2 r ae hlt;rw[h3 r ae hr hf];exact hf
theorem DC.next {k ns q:Nat} {ms iO:List bj} (h:DC k ns q ms) (hk:k < ms.length) (h3:∀ h2:k < iO.length,iO[k].sigs=ms[k].sigs.modify q vZ∧iO[k].line=ms[k].line∧iO[k].ak=ms[k].ak):DC k ns (q+1) iO:=by
 intro pW;obtain⟨e1,e2,e3⟩:=h3 pW;obtain⟨a1,a2,a3,a4⟩:=h hk;refine⟨by rw[e2];exact a1,by rw[e3];exact a2,by rw[e1,List.length_modify];exact a3,?_⟩;rw[e1];intro t ht hlt;rw[List.length_modify]at ht;simp only[List.getElem_modify];split
 ·rfl
 ·exact a4 t ht ae
theorem rk.next {x:aS} {k ns:Nat} {ms:List bj} (h:rk x k ms) (hi:DC k ns ns ms):rk x (k+1) ms:=by
 refine⟨h.1,h.2.1,fun r hr hlt=>?_⟩;by_cases e:r=k
 ·subst e;obtain⟨a1,a2,a3,a4⟩:=hi hr;have hs:ms[r].sigs.map vZ=ms[r].sigs:=by
   refine List.ext_getElem aB fun j k1 k2=>?_
   simp only[Bz];exact a4 j k2 ae
  unfold iI;rw[hs,← a1];generalize ms[r]=m at *;obtain⟨⟩:=m;simp only at a1 a2;subst a1 a2;rfl
 ·exact h.2.2 r hr ae
theorem rk.done {x:aS} {ms:List bj} (h:rk x x.msgs.length ms):ms=x.msgs.map iI:=by
 rw[← h.2.1];refine List.ext_getElem aB fun j k1 k2=>?_
 simp only[Bz];exact(h.2.2 j k1 (by have:=h.1;omega)).symm
def BM (x:aS) (k:Nat) (ts:List bK):Prop:=ts.length=x.tabs.length∧∀ r (h1:r < ts.length) (h2:r < x.tabs.length),ts[r]=if r < k then Qr x.tabs[r] else x.tabs[r]
theorem BM.start (x:aS):BM x 0 x.tabs:=⟨rfl,fun r h1 h2=>by rw[if_neg (Nat.not_lt_zero _)]⟩
theorem BM.next {x:aS} {k:Nat} {ts:List bK} (h:BM x k ts) (hk:k < ts.length):BM x (k+1) (ts.set k { ts[k]with line:=0,ak:=0 }):=by
 refine⟨by rw[kD];exact h.1,fun r h1 h2=>?_⟩;rw[kD]at h1;have hr:=h.2 r h1 h2;by_cases e:k=r
 ·subst e;rw[List.getElem_set_self,if_pos ae,hr,if_neg ae];rfl
 ·rw[List.getElem_set_ne e,hr];by_cases hlt:r < k
  ·rw[if_pos hlt,if_pos ae]
  ·rw[if_neg hlt,if_neg ae]
theorem BM.done {x:aS} {ts:List bK} (h:BM x x.tabs.length ts):ts=x.tabs.map Qr:=by
 refine List.ext_getElem (by rw[iw];exact h.1) fun j k1 k2=>?_
 rw[iw]at k2;rw[Bz,h.2 j k1 k2,if_pos k2]
theorem Qg (x:aS) (hf:Qf x) (hv:tq x) (w:World) (cs:Array Value) (hx:rf w x cs.toList) :
  Calls prog 31 #[.agg cs] w fun e w'=>∃ C:Array Value,e=.returned (.agg C)∧tB w.heap.size w' (uI x) C.toList∧Below w.heap.size w w':=by
 obtain⟨c1,c2,e0⟩:∃ (h1:cs.size=9) (h2:cs.all (·.oneCell')=true),True:=by
  obtain⟨a,cap,b,cb,c,cc,iu,-⟩:=hx;rw[eA.1 iu];exact⟨rfl,aS.cells_one _ _ _ _ _ _ _ _ _ _,trivial⟩
 obtain⟨zb,zz,hz2,gw⟩:=rj w cs bf 33 33;have hu:=underlying33;have C0:=Qh (ajW x hf _ cs (vT _ _ _ _ hx gw) w.heap.size gw.size);have vW:=Qh gw;have K2:=Qh (show((w.alloc (.cells cs 33)).alloc (.cells bf 33)).heap[w.heap.size+1]? = some (.cells bf 33)by simpa using dK (w.alloc (.cells cs 33)) (.cells bf 33));clear hx;go_enter func31,ntmps31
 go_wp2_with (refine fG zb 33 (.tmp 1) hu (by rw[c1];exact jw) ?_)
 refine jH C0.o ?_;intro w1 C dP hb;have hb1:=aH vW.o hb af;have k2:=ai.wg K2.o hb;obtain⟨u,v,z,eC,h1,h2,h3⟩:=dP;obtain rfl:C=x.cells u v z:=eA.1 eC;clear eC;have q0:=aS.nO x u v z;have q1:(x.cells u v z).all (·.oneCell')=true:=by
  obtain⟨a4,c4,rfl,-⟩:=h1.shape;obtain⟨a5,c5,rfl,-⟩:=h2.shape;obtain⟨a6,c6,rfl,-⟩:=h3.shape;exact aS.cells_one _ _ _ _ _ _ _ _ _ _
 have hz1:w.heap.size+2≤w1.heap.size:=bQ aB hb.size;have A0:Hid (∀ o:Unit,oB w.heap.size w1.heap.size x u v z (w1.alloc (.cells (x.cells u v z) 33))):=Qh fun _=>by
  have b1:Below w1.heap.size w1 (w1.alloc (.cells (x.cells u v z) 33)):=(aC _ _).alloc af _;exact⟨dK w1 _,ai.wg k2 b1,h1.keep b1 af,h2.keep (qQ _) b1,h3.keep (sf _) b1,ae⟩
 have bX:=Qh hb1;have k9:=Qh hz1;clear h1 h2 h3 k2 hb hb1 hz1 zb zz hz2 gw;go_upto_region 2 with (refine eX (Z:=bf) (cs:=x.cells u v z) 33 (.tmp 3) (.tmp 8) (by rw[q0];exact Fg) zr q1 ?_)
 have a0:=A0.o ();have hb0:Below w.heap.size w (w1.alloc (.cells (x.cells u v z) 33)):=bX.o.alloc (by have:=k9.o;omega) _;have hk3:w.heap.size≤w1.heap.size:=(by have:=k9.o;omega);have dS:=Qh hb0;clear A0 bX k9 vW C0 K2 hb0 q0 q1;generalize w1.heap.size=k3 at *;generalize w1.alloc (.cells (x.cells u v z) 33)=W1 at *;obtain⟨V,hV⟩:∃ V:zQ,V = { x.bG with line:=0,ak:=0 }:=⟨_,rfl⟩
 have f1:=a0.cell 1 (.int .i64 x.bG.line) rfl;have f2:=a0.cell 2 (.int .i64 x.bG.ak) rfl;have a1:=(a0.box { x with bG:={ x.bG with line:=0 } } 1 (.int .i64 0) rfl rfl rfl rfl).box { x with bG:=V } 2 (.int .i64 0) (by rw[hV];rfl) rfl rfl rfl;have hb1:=pX (pX dS.o hk3 1 (.int .i64 0)) hk3 2 (.int .i64 0);have f4:=a0.cell 4 (.int .i64 x.aR.line) rfl;have f5:=a0.cell 5 (.int .i64 x.aR.ak) rfl;refine aY ((a1.box { x with bG:=V,aR:={ x.aR with line:=0 } } 4 (.int .i64 0) rfl rfl rfl rfl).box { x with bG:=V,aR:={ x.aR with line:=0,ak:=0 } } 5 (.int .i64 0) rfl rfl rfl rfl) (pX (pX hb1 hk3 4 (.int .i64 0)) hk3 5 (.int .i64 0)) hV ?_;intro A4 fe HV;clear a0 a1 hb1 dS hV;go_upto_region 4 with fail
 have a4:=A4.o;have hb4:=fe.o;clear A4 fe f1 f2 f4 f5 c1 c2 e0;generalize (((W1.setCell ⟨k3,1,none⟩ (.int .i64 0)).setCell ⟨k3,2,none⟩ (.int .i64 0)).setCell ⟨k3,4,none⟩ (.int .i64 0)).setCell ⟨k3,5,none⟩ (.int .i64 0)=W6 at *;obtain⟨va,vc,rfl,-⟩:=a4.mm.shape;obtain⟨ta,tc,rfl,-⟩:=a4.tt.shape;have st0:=rk.start x;have A6:=Qh a4;clear a4;go_wp2_with fail;go_loopw [4,5] (fun i j wr=>∃ (k:Nat) (ms:List bj),k≤x.msgs.length∧i=.int .i64 k∧rk x k ms∧oB w.heap.size k3 ⟨x.has,V,{ x.aR with line:=0,ak:=0 },ms,x.tabs⟩ u (.slice va x.msgs.length vc) (.slice ta x.tabs.length tc) wr∧Below w.heap.size w wr) (fun i _ _=>x.msgs.length - (intOf i).toNat)
 case atStart=>exact⟨0,x.msgs,bV _,rfl,st0,A6.o,hb4⟩
 case round=>
  obtain⟨k,ms,hk,rfl,I1,ha,bP⟩:=hrel;have f7:wr.cell? ⟨k3,7,none⟩=some (.slice va x.msgs.length vc):=(ha.cell 7 _ rfl).1;by_cases hlt:k < x.msgs.length
  ·have hk2:k < ms.length:=(by have:=I1.1;omega);have hkb:k+1≤4000000:=(by have:=hf.mm;omega);obtain⟨b,cap,hv,Ma,hbl,⟨D,hD⟩,cs',hcl,dP,hrg⟩:=ha.mm.Qt ah hk2;simp only[Value.slice.injEq]at hv;obtain⟨rfl,-,-⟩:=hv;obtain⟨vs,rfl,-⟩:=dP;have g0:wr.cell? ⟨b,k*8,none⟩=some (.int .i64 ms[k].line):=(by simpa using hrg 0 (.int .i64 ms[k].line) rfl);have g1:=hrg 1 (.int .i64 ms[k].ak) rfl;have r0:wr.frozen? ⟨b,k*8,none⟩=false:=ai.free ⟨_,hD⟩ _;have r1:wr.frozen? ⟨b,k*8+1,none⟩=false:=ai.free ⟨_,hD⟩ _;clear hrg hcl;refine fx (show oB w.heap.size k3 ⟨x.has,V,{ x.aR with line:=0,ak:=0 },ms.set k { ms[k]with line:=0,ak:=0 },x.tabs⟩ u (.slice (some ⟨b,0,none⟩) x.msgs.length vc) (.slice ta x.tabs.length tc) _ from ha.msg hD hk2) (pX (pX bP Ma (k*8) (.int .i64 0)) Ma (k*8+1) (.int .i64 0)) (I1.place hk2) (DC.start hk2) ?_;clear ha bP hD I1;intro A7 nG HM HI;go_upto_region 8 with fail
   have a7:=A7.o;have BN:=nG.o;have hm7:=HM.o;have hi7:=HI.o;clear A7 nG HM HI g0 g1 r0 r1 f7;generalize (wr.setCell ⟨b,k*8,none⟩ (.int .i64 0)).setCell ⟨b,k*8+1,none⟩ (.int .i64 0)=wx at *;generalize ms[k].sigs.length=ns at *;generalize ms.set k { ms[k]with line:=0,ak:=0 } = ms2 at *;have HA7:=Qh a7;clear a7;go_wp2_with fail;go_loopw [5] (fun j ww=>∃ (q:Nat) (m3:List bj),q≤ns∧j=.int .i64 q∧rk x k m3∧DC k ns q m3∧oB w.heap.size k3 ⟨x.has,V,{ x.aR with line:=0,ak:=0 },m3,x.tabs⟩ u (.slice (some ⟨b,0,none⟩) x.msgs.length vc) (.slice ta x.tabs.length tc) ww∧Below w.heap.size w ww) (fun j _=>ns - (intOf j).toNat)
   case atStart=>exact⟨0,ms2,bV _,rfl,hm7,hi7,HA7.o,BN⟩
   case round=>
    obtain⟨q,m3,hq,rfl,tE,qA,ha,bP⟩:=hrel;obtain⟨ww,FO⟩:∃ y,y=wr:=⟨_,rfl⟩
    subst FO;have BO:k < m3.length:=(by have:=tE.1;omega);have f7:ww.cell? ⟨k3,7,none⟩=some (.slice (some ⟨b,0,none⟩) x.msgs.length vc):=(ha.cell 7 _ rfl).1;obtain⟨b',cap',hv,-,-,-,cs',hcl,dP,hrg⟩:=ha.mm.Qt ah BO;have hve:=hv;simp only[Value.slice.injEq,Option.some.injEq,Addr.mk.injEq,and_true]at hv;obtain⟨rfl,-,-⟩:=hv;obtain⟨vs,rfl,Mb⟩:=dP;obtain⟨sa,sc,QA,-⟩:=Mb.shape;rw[(qA BO).2.2.1]at QA;have g6:=hrg 7 vs rfl;have vp:=Qh hrg;have VH:=Qh hve;clear hrg hve hcl;by_cases QB:q < ns
    ·have hq':q < m3[k].sigs.length:=(by rw[(qA BO).2.2.1];exact QB);have hqb:q+1≤9223372036854775807:=bQ (Nat.succ_le_of_lt hq') Mb.bound;obtain⟨g,gc,hv2,hgB,hgl,⟨G,hG⟩,ss,iQ,QC,DD⟩:=Mb.Qt ah hq';rw[(qA BO).2.2.1]at hv2;obtain⟨vr,rfl,-⟩:=QC;subst hv2;have g0:ww.cell? ⟨g,q*19,none⟩=some (.int .i64 m3[k].sigs[q].d.line):=(by simpa using DD 0 (.int .i64 m3[k].sigs[q].d.line) rfl);have g1:=DD 1 (.int .i64 m3[k].sigs[q].d.ak) rfl;have r0:ww.frozen? ⟨g,q*19,none⟩=false:=ai.free ⟨_,hG⟩ _;have r1:ww.frozen? ⟨g,q*19+1,none⟩=false:=ai.free ⟨_,hG⟩ _;obtain⟨m4,A8,l4,z4,x4,i4⟩:=ha.sig (k:=q) hG (i:=k) BO ⟨b,cap',VH.o,vp.o⟩ rfl;clear ha hG Mb DD iQ vp VH QA;refine fx A8 (tE.struck l4 z4 x4) (qA.next BO i4) (pX (pX bP hgB (q*19) (.int .i64 0)) hgB (q*19+1) (.int .i64 0)) ?_;clear A8 l4 z4 x4 i4 bP tE qA;intro HA8 HM8 HI8 DF;go_wp2_with fail;go_roundw;case rel=>exact⟨q+1,m4,ae,bL,HM8.o,HI8.o,HA8.o,DF.o⟩
     case measure=>exact bY
    ·have e:q=ns:=ae;subst e;subst QA;refine aY ha bP (tE.next qA) ?_;intro HA9 FP HM9;clear ha bP tE qA vp VH Mb;go_wp2_with fail;go_roundw;case rel=>exact⟨k+1,m3,ae,bL,HM9.o,HA9.o,FP.o⟩
     case measure=>exact bY
  ·have e:k=x.msgs.length:=ae;subst e;obtain rfl:=I1.done;have HAT:=Qh ha;have HBT:=Qh bP;clear ha bP I1;have t0:=BM.start x;have hbt:=HBT.o;obtain⟨w8,hw8⟩:∃ y,y=wr:=⟨_,rfl⟩
   subst hw8;go_wp2_with fail;go_loopw [6] (fun i wr=>∃ (k:Nat) (ts:List bK),k≤x.tabs.length∧i=.int .i64 k∧BM x k ts∧oB w.heap.size k3 ⟨x.has,V,{ x.aR with line:=0,ak:=0 },x.msgs.map iI,ts⟩ u (.slice va x.msgs.length vc) (.slice ta x.tabs.length tc) wr∧Below w.heap.size w wr) (fun i _=>x.tabs.length - (intOf i).toNat)
   case atStart=>exact⟨0,x.tabs,bV _,rfl,t0,HAT.o,hbt⟩
   case round=>
    obtain⟨k,ts,hk,rfl,ed,ha,bP⟩:=hrel;obtain⟨ww,FO⟩:∃ y,y=wr:=⟨_,rfl⟩
    subst FO;have f8:ww.cell? ⟨k3,8,none⟩=some (.slice ta x.tabs.length tc):=(ha.cell 8 _ rfl).1;by_cases hlt:k < x.tabs.length
    ·have hk2:k < ts.length:=(by have:=ed.1;omega);have hkb:k+1≤4000000:=(by have:=hf.tt;omega);obtain⟨b,cap,hv,Ma,hbl,⟨D,hD⟩,cs',hcl,dP,hrg⟩:=ha.tt.Qt ah hk2;simp only[Value.slice.injEq]at hv;obtain⟨rfl,-,-⟩:=hv;obtain⟨vs,rfl,-⟩:=dP;have g0:ww.cell? ⟨b,k*6,none⟩=some (.int .i64 ts[k].line):=(by simpa using hrg 0 (.int .i64 ts[k].line) rfl);have g1:=hrg 1 (.int .i64 ts[k].ak) rfl;have r0:ww.frozen? ⟨b,k*6,none⟩=false:=ai.free ⟨_,hD⟩ _;have r1:ww.frozen? ⟨b,k*6+1,none⟩=false:=ai.free ⟨_,hD⟩ _;refine aY (show oB w.heap.size k3 ⟨x.has,V,{ x.aR with line:=0,ak:=0 },x.msgs.map iI,ts.set k { ts[k]with line:=0,ak:=0 }⟩ u (.slice va x.msgs.length vc) (.slice (some ⟨b,0,none⟩) x.tabs.length tc) _ from ha.tab hD hk2) (pX (pX bP Ma (k*6) (.int .i64 0)) Ma (k*6+1) (.int .i64 0)) (ed.next hk2) ?_;intro A7 nG HM;clear ha bP hrg hD hcl ed;go_wp2_with fail;go_roundw;case rel=>exact⟨k+1,_,ae,bL,HM.o,A7.o,nG.o⟩
     case measure=>exact bY
    ·have e:k=x.tabs.length:=ae;subst e;obtain rfl:=ed.done;have adj:(⟨x.has,V,{ x.aR with line:=0,ak:=0 },x.msgs.map iI,x.tabs.map Qr⟩:aS)=uI x:=by
      unfold uI;rw[HV.o];cases hh:x.has
      ·rw[hv hh];rfl
      ·rfl
     rw[adj]at ha;have HA:=Qh ha;have HB:=Qh bP;have b3:ai ww k3 _:=⟨_,ha.b3⟩
     have b2:ai ww (w.heap.size+1) _:=⟨_,ha.b2⟩
     have q0:=aS.nO (uI x) u (.slice va x.msgs.length vc) (.slice ta x.tabs.length tc);have q1:((uI x).cells u (.slice va x.msgs.length vc) (.slice ta x.tabs.length tc)).all (·.oneCell')=true:=by
      obtain⟨a4,c4,rfl,-⟩:=ha.nn.shape;exact aS.cells_one _ _ _ _ _ _ _ _ _ _
     clear ha bP ed adj;generalize hE:(uI x).cells u (.slice va x.msgs.length vc) (.slice ta x.tabs.length tc)=E at *;have HE:=Qh hE;clear hE;go_wp2_with (first|(refine fG b3 33 (.tmp 3) hu Ip ?_)|(refine iC (cs:=E) b2 33 (.tmp 2) (.tmp 62) Ip zr q1 ?_))
     have hrun:=fo (b2.row E) 33 _ hu rfl Ip;have bR:=pL HB.o (show w.heap.size≤w.heap.size+1 by omega) E;refine bB (v:=.agg E) (by simp[results,results31,Act.put,asAddr,hrun]) rfl ⟨E,rfl,?_,bR⟩;rw[← HE.o];have hh:=HA.o;refine⟨u,.slice va x.msgs.length vc,.slice ta x.tabs.length tc,rfl,?_,?_,?_⟩
     ·exact aG.dn hh.nn ah hh.b2 (fun b _ hne=>gK _ _ _ _ hne)
     ·exact aZ.dn hh.mm ah (lu _ ah ah) hh.b2 qX (fun b _ hne=>gK _ _ _ _ hne)
     ·exact aZ.dn hh.tt ah (mQ _ ah) hh.b2 qX (fun b _ hne=>gK _ _ _ _ hne)
end Go.Proofs.YtfflljgnpfldfaaGreatDoor
