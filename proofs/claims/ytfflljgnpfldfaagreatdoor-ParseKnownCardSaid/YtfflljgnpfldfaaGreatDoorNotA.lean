/-
  Noted: all lists within parts.
-/
import Derived.Test.YtfflljgnpfldfaaGreatDoorIsnA
set_option linter.all false
set_option maxHeartbeats 128000000
set_option maxRecDepth 100000
namespace Go.Proofs.YtfflljgnpfldfaaGreatDoor
open Go.Proofs.Tryz
open Go.RowKit
theorem ajL:eO prog 71 27 1 24:=eO.mk' (.slice none 0 0) underlying71 aj rfl ah ah
theorem ajM:eO prog 75 41 1 24:=eO.mk' (.slice none 0 0) underlying75 aj rfl ah ah
theorem acJ:eO prog 80 37 1 24:=eO.mk' (.slice none 0 0) underlying80 aj rfl ah ah
def ajN (u v z:Value):Array Value:=#[.slice none 0 0,u,.slice none 0 0,.slice none 0 0,.slice none 0 0,v,.slice none 0 0,.slice none 0 0,.slice none 0 0,.slice none 0 0,z,.slice none 0 0,.slice none 0 0,.slice none 0 0,.slice none 0 0]
structure ie (w0 w:World) (kb:Nat) (TX RW SG:List Value):Prop where
 ex:∃ u v z,w.heap[kb]? = some (.cells (ajN u v z) 86)∧aG w w0.heap.size 27 1 qq u TX∧aG w w0.heap.size 41 1 qq v RW∧aG w w0.heap.size 37 1 qq z SG
 only:aA kb w0 w
 lt:kb < w0.heap.size
theorem ie.keep {w0 w w':World} {kb:Nat} {TX RW SG:List Value} (h:ie w0 w kb TX RW SG) (hb:Below w.heap.size w w'):ie w0 w' kb TX RW SG:=by
 obtain⟨⟨u,v,z,h1,h2,h3,h4⟩,h5,h6⟩:=h;exact⟨⟨u,v,z,bF h1 hb,h2.keep hb af,h3.keep hb af,h4.keep hb af⟩,h5.trans (aA.of_below kb hb),h6⟩
theorem adi (x:Value) (hx:∃ a n c,x=.slice a n c) (w0:World) (kb:Nat) (TX RW SG:List Value) (hl:TX.length≤100000000) (w:World) (h:ie w0 w kb TX RW SG) :
  Calls prog 111 #[.pointer (some ⟨kb,0,none⟩),x] w fun e w'=>e=.returned (.tuple #[])∧ie w0 w' kb (TX++[x]) RW SG:=by
 obtain⟨xa,xn,xc,rfl⟩:=hx;obtain⟨⟨u,v,z,hc,ht,hr,hs⟩,ho,hlt⟩:=h;obtain⟨ca,cc,e0,-⟩:=ht.shape;subst e0;have f1:=ai.cell ⟨_,hc⟩ 1 _ rfl;refine lC hc ht hr hs ?_;intro HC HT HR HS;have HO:=Qh ho;have hsz:w0.heap.size≤w.heap.size:=ho.size;clear hc ht hr hs ho;go_enter func111,ntmps111
 go_wp2_with (at_builtin;go_loud (refine iL (en:=qq) ajL TX (.slice xa xn xc) HT.o (aC w0.heap.size w) hsz ae ?_ (hone:=Ii)))
 rintro v6 W6 kA bR gL -;refine AV ?_;intro a6 n6 c6 qy
 subst qy;have eU:=Qh (jQ HC.o HT.o ah gL);have gJ:=Qh (aA.low HO.o bR);have f2:=ai.cell ⟨_,eU.o⟩ 1 _ rfl;have r2:=ai.free ⟨_,eU.o⟩ 1;have xL:=Qh (HR.o.nH HT.o ah gL);have VG:=Qh (HS.o.nH HT.o ah gL);have IZ:=Qh kA;clear kA bR gL;go_wp2_with fail;refine⟨rfl,.tuple #[],by simp[results,results111],rfl,⟨⟨(.slice a6 n6 c6),v,z,bJ eU.o 1 (.slice a6 n6 c6),?_,?_,?_⟩,gJ.o.set 1 _,hlt⟩⟩
 ·exact IZ.o.dn ah eU.o (fun b _ hne=>dN _ ⟨kb,1,none⟩ _ b hne)
 ·exact xL.o.dn ah eU.o (fun b _ hne=>dN _ ⟨kb,1,none⟩ _ b hne)
 ·exact VG.o.dn ah eU.o (fun b _ hne=>dN _ ⟨kb,1,none⟩ _ b hne)
theorem ajO (x:Value) (hx:∃ a n c,x=.slice a n c) (w0:World) (kb:Nat) (TX RW SG:List Value) (hl:RW.length≤100000000) (w:World) (h:ie w0 w kb TX RW SG) :
  Calls prog 113 #[.pointer (some ⟨kb,0,none⟩),x] w fun e w'=>e=.returned (.tuple #[])∧ie w0 w' kb TX (RW++[x]) SG:=by
 obtain⟨xa,xn,xc,rfl⟩:=hx;obtain⟨⟨u,v,z,hc,ht,hr,hs⟩,ho,hlt⟩:=h;obtain⟨ca,cc,e0,-⟩:=hr.shape;subst e0;have f1:=ai.cell ⟨_,hc⟩ 5 _ rfl;refine lC hc ht hr hs ?_;intro HC HT HR HS;have HO:=Qh ho;have hsz:w0.heap.size≤w.heap.size:=ho.size;clear hc ht hr hs ho;go_enter func113,ntmps113
 go_wp2_with (at_builtin;go_loud (refine iL (en:=qq) ajM RW (.slice xa xn xc) HR.o (aC w0.heap.size w) hsz ae ?_ (hone:=Ii)))
 rintro v6 W6 kA bR gL -;refine AV ?_;intro a6 n6 c6 qy
 subst qy;have eU:=Qh (jQ HC.o HR.o ah gL);have gJ:=Qh (aA.low HO.o bR);have f2:=ai.cell ⟨_,eU.o⟩ 5 _ rfl;have r2:=ai.free ⟨_,eU.o⟩ 5;have IZ:=Qh (HT.o.nH HR.o ah gL);have VG:=Qh (HS.o.nH HR.o ah gL);have xL:=Qh kA;clear kA bR gL;go_wp2_with fail;refine⟨rfl,.tuple #[],by simp[results,results113],rfl,⟨⟨u,(.slice a6 n6 c6),z,bJ eU.o 5 (.slice a6 n6 c6),?_,?_,?_⟩,gJ.o.set 5 _,hlt⟩⟩
 ·exact IZ.o.dn ah eU.o (fun b _ hne=>dN _ ⟨kb,5,none⟩ _ b hne)
 ·exact xL.o.dn ah eU.o (fun b _ hne=>dN _ ⟨kb,5,none⟩ _ b hne)
 ·exact VG.o.dn ah eU.o (fun b _ hne=>dN _ ⟨kb,5,none⟩ _ b hne)
theorem ajP (x:dI) (xa:Option Addr) (xn xc:Nat) (w0:World) (kb:Nat) (TX RW SG:List Value) (hl:TX.length≤100000000) (w:World) (h:ie w0 w kb TX RW SG) :
  Calls prog 162 #[.pointer (some ⟨kb,0,none⟩),.agg (x.cells (.slice xa xn xc))] w fun e w'=>e=.returned (.tuple #[])∧ie w0 w' kb (TX++[.slice xa xn xc]) RW SG:=by
 have HK:=Qh (fun o:Obj=>h.keep ((aC w.heap.size w).alloc af o));have eB:=Qh (fun W hW=>adi (.slice xa xn xc) ⟨xa,xn,xc,rfl⟩ w0 kb TX RW SG hl W hW);clear h;unfold dI.cells;go_enter func162,ntmps162
 go_wp2_with fail;refine qT (eB.o _ (HK.o _)) ?_;intro w2 HB
 go_wp2_with fail;exact⟨rfl,.tuple #[],by simp[results,results162],rfl,HB.o⟩
theorem ajQ (x:fH) (xa:Option Addr) (xn xc:Nat) (w0:World) (kb:Nat) (TX RW SG:List Value) (hl:TX.length≤100000000) (w:World) (h:ie w0 w kb TX RW SG) :
  Calls prog 58 #[.pointer (some ⟨kb,0,none⟩),.agg (x.cells (.slice xa xn xc))] w fun e w'=>e=.returned (.tuple #[])∧ie w0 w' kb (TX++[.slice xa xn xc]) RW SG:=by
 have HK:=Qh (fun o:Obj=>h.keep ((aC w.heap.size w).alloc af o));have eB:=Qh (fun W hW=>adi (.slice xa xn xc) ⟨xa,xn,xc,rfl⟩ w0 kb TX RW SG hl W hW);clear h;unfold fH.cells;go_enter func58,ntmps58
 go_wp2_with fail;refine qT (eB.o _ (HK.o _)) ?_;intro w2 HB
 go_wp2_with fail;exact⟨rfl,.tuple #[],by simp[results,results58],rfl,HB.o⟩
theorem ajR (x:bK) (xa:Option Addr) (xn xc:Nat) (w0:World) (kb:Nat) (TX RW SG:List Value) (hl:RW.length≤100000000) (w:World) (h:ie w0 w kb TX RW SG) :
  Calls prog 60 #[.pointer (some ⟨kb,0,none⟩),.agg (x.cells (.slice xa xn xc))] w fun e w'=>e=.returned (.tuple #[])∧ie w0 w' kb TX (RW++[.slice xa xn xc]) SG:=by
 have HK:=Qh (fun o:Obj=>h.keep ((aC w.heap.size w).alloc af o));have eB:=Qh (fun W hW=>ajO (.slice xa xn xc) ⟨xa,xn,xc,rfl⟩ w0 kb TX RW SG hl W hW);clear h;unfold bK.cells;go_enter func60,ntmps60
 go_wp2_with fail;refine qT (eB.o _ (HK.o _)) ?_;intro w2 HB
 go_wp2_with fail;exact⟨rfl,.tuple #[],by simp[results,results60],rfl,HB.o⟩
theorem aA.rangeAt {kp b off:Nat} {w w':World} {cs:List Value} (ho:aA kp w w') (hb:b < w.heap.size) (hne:b≠kp) (h:w.rangeAt b off cs):w'.rangeAt b off cs:=fun j v hv=>by
 have h1:=h j v hv;have e:=ho.block b hb Iq;unfold World.cell? at h1 ⊢;simp only[e];exact h1
theorem ajS (ds:List (dI×Value)) (Dz:∀ p∈ds,∃ a n c,p.2=.slice a n c) (b o cap:Nat) (w0:World) (kb:Nat) (hb:b < w0.heap.size) (hne:b≠kb) (hrg:∀ i (hi:i < ds.length),w0.rangeAt b (o+i*19) (ds[i].1.cells ds[i].2).toList)
  (TX RW SG:List Value) (hl:TX.length+ds.length≤100000000) (hl2:SG.length≤100000000) (n:Nat) (hn:n=ds.length) (a:Option Addr) (ha:0 < ds.length→a=some ⟨b,o,none⟩) (w:World) (h:ie w0 w kb TX RW SG) :
  Calls prog 112 #[.pointer (some ⟨kb,0,none⟩),.slice a n cap] w fun e w'=>e=.returned (.tuple #[])∧ie w0 w' kb (TX++ds.map (·.2)) RW (SG++[.slice a n cap]):=by
 subst hn;obtain⟨⟨u,v,z,hc,ht,hr,hs⟩,ho,hlt⟩:=h;obtain⟨ca,cc,e0,-⟩:=hs.shape;subst e0;have f1:=ai.cell ⟨_,hc⟩ 10 _ rfl;refine aY hc ht hr ?_;intro HC HT HR;refine aY hs ho hrg ?_;intro HS HO vp;have hsz:w0.heap.size≤w.heap.size:=ho.size;have iP:=underlying63;clear hc ht hr hs ho hrg;go_enter func112,ntmps112
 go_wp2_with (at_builtin;go_loud (refine iL (en:=qq) acJ SG (.slice a ds.length cap) HS.o (aC w0.heap.size w) hsz ae ?_ (hone:=Ii)))
 rintro v6 W6 kA bR gL -;refine AV ?_;intro a6 n6 c6 qy
 subst qy;have eU:=Qh (jQ HC.o HS.o ah gL);have gJ:=Qh (aA.low HO.o bR);have f2:=ai.cell ⟨_,eU.o⟩ 10 _ rfl;have r2:=ai.free ⟨_,eU.o⟩ 10;have IZ:=Qh (HT.o.nH HS.o ah gL);have xL:=Qh (HR.o.nH HS.o ah gL);have mg:Hid (ie w0 (W6.setCell ⟨kb,10,none⟩ (.slice a6 n6 c6)) kb (TX++(ds.take 0).map (·.2)) RW (SG++[.slice a ds.length cap])):=Qh (by
  rw[List.take_zero,BC,pT];exact⟨⟨u,v,.slice a6 n6 c6,bJ eU.o 10 (.slice a6 n6 c6),IZ.o.dn ah eU.o (fun b _ hne=>dN _ ⟨kb,10,none⟩ _ b hne),xL.o.dn ah eU.o (fun b _ hne=>dN _ ⟨kb,10,none⟩ _ b hne),kA.dn ah eU.o (fun b _ hne=>dN _ ⟨kb,10,none⟩ _ b hne)⟩,gJ.o.set 10 _,hlt⟩)
 clear kA bR gL f1 HC HT HR HS HO eU gJ IZ xL;go_wp2_with fail;go_loopw [4] (fun kv wr=>∃ i:Nat,i≤ds.length∧kv=.int .i64 (i:Nat)∧ie w0 wr kb (TX++(ds.take i).map (·.2)) RW (SG++[.slice a ds.length cap])) (fun kv _=>ds.length - (intOf kv).toNat)
 case atStart=>exact⟨0,bV _,rfl,mg.o⟩
 case round=>
  clear mg;obtain⟨i,hi,rfl,hB⟩:=hrel;by_cases hlt2:(i:Int) < ds.length
  ·have a8:i < ds.length:=ae;obtain⟨xa,xn,xc,hx⟩:=Dz ds[i] (gU a8);have r:=aA.rangeAt hB.only hb hne (vp.o i a8);have hap:=ha ae;have hTL:(TX++(ds.take i).map (·.2)).length≤100000000:=U5;have cS:=ajP ds[i].1 xa xn xc w0 kb _ RW _ hTL wr hB;have dW:TX++(ds.take i).map (·.2)++[.slice xa xn xc]=TX++(ds.take (i+1)).map (·.2):=by
    rw[← List.take_append_getElem a8,vO,o6,← hx];rfl
   rw[dW]at cS;rw[hx]at r;have HN:=Qh dW;have FN:=Qh cS;have L9:(prog.info? 63).map (·.size)=some ((ds[i].1.cells (.slice xa xn xc)).toList).length:=uA;subst hap;clear hx dW cS hB hTL;generalize ds[i].1=D at *;generalize hCd:D.cells (.slice xa xn xc)=CD at *;clear hCd;go_wp2_with (refine wpList_load_mid rfl 63 (.tmp 24) rfl b (o+i*19) rfl _ _ r iP rfl L9 ?_;simp only[Array.toArray_toList])
   refine qT FN.o ?_;intro w2 aM;go_wp2_with fail;go_roundw;case rel=>exact⟨i+1,ae,bL,aM.o⟩
   case measure=>exact bY
  ·have vU:i=ds.length:=ae;have eE:=Qh (show ie w0 wr kb (TX++ds.map (·.2)) RW (SG++[.slice a ds.length cap])by rw[vU,vN]at hB;exact hB);clear hB vU;go_wp2_with fail;exact⟨rfl,.tuple #[],by simp[results,results112],rfl,eE.o⟩
theorem ajT (x:bj) (ds:List (dI×Value)) (Dz:∀ p∈ds,∃ a n c,p.2=.slice a n c) (b o cap:Nat) (w0:World) (kb:Nat) (hb:b < w0.heap.size) (hne:b≠kb) (hrg:∀ i (hi:i < ds.length),w0.rangeAt b (o+i*19) (ds[i].1.cells ds[i].2).toList)
  (TX RW SG:List Value) (hl:TX.length+ds.length≤100000000) (hl2:SG.length≤100000000) (n:Nat) (hn:n=ds.length) (a:Option Addr) (ha:0 < ds.length→a=some ⟨b,o,none⟩) (w:World) (h:ie w0 w kb TX RW SG) :
  Calls prog 59 #[.pointer (some ⟨kb,0,none⟩),.agg (x.cells (.slice a n cap))] w fun e w'=>e=.returned (.tuple #[])∧ie w0 w' kb (TX++ds.map (·.2)) RW (SG++[.slice a n cap]):=by
 subst hn;have HK:=Qh (fun o:Obj=>h.keep ((aC w.heap.size w).alloc af o));have eB:=Qh (fun W hW=>ajS ds Dz b o cap w0 kb hb hne hrg TX RW SG hl hl2 ds.length rfl a ha W hW);clear h hrg Dz ha;unfold bj.cells;go_enter func59,ntmps59
 go_wp2_with fail;refine qT (eB.o _ (HK.o _)) ?_;intro w2 HB
 go_wp2_with fail;exact⟨rfl,.tuple #[],by simp[results,results59],rfl,HB.o⟩
theorem XI {P:Program} {t s:TypeId} {fs:Array Field} {z:Value} (hu:P.underlying s=some (.struct fs)) (hz:(P.info? s).map (·.zero)=some (some z)) (hne:t≠s) (v:Value) (xT:TypeId) (w:World):(Instr.typeAssert (.iface t v) xT s true).run P w=.ok (.tuple #[z,.bool false]) w:=by
 obtain⟨i,hi,hz⟩:=IB.1 hz;refine Uw ?_;simp[hne,zeroValue,typeInfo,hi,hz]
theorem XJ {t:TypeId} (hne:t≠29) (v:Value) (xT:TypeId) (w:World):(Instr.typeAssert (.iface t v) xT 29 true).run prog w=.ok (.tuple #[.agg tI,.bool false]) w:=XI underlying29 aj hne v xT w
theorem notM {t:TypeId} (hne:t≠39) (v:Value) (xT:TypeId) (w:World):(Instr.typeAssert (.iface t v) xT 39 true).run prog w=.ok (.tuple #[.agg fE,.bool false]) w:=XI underlying39 aj hne v xT w
theorem ao1 {t:TypeId} (hne:t≠43) (v:Value) (xT:TypeId) (w:World):(Instr.typeAssert (.iface t v) xT 43 true).run prog w=.ok (.tuple #[.agg iD,.bool false]) w:=XI underlying43 aj hne v xT w
inductive bU where
 | bG (C:Array Value)
 | aR (x:fH) (a:Option Addr) (n c:Nat)
 | msg (x:bj) (ds:List (dI×Value)) (b o cap:Nat) (a:Option Addr)
 | tab (x:bK) (a:Option Addr) (n c:Nat)
def bU.val:bU→Value
 | .bG C=>.iface 26 (.agg C)
 | .aR x a n c=>.iface 29 (.agg (x.cells (.slice a n c)))
 | .msg x ds b o cap a=>.iface 39 (.agg (x.cells (.slice a ds.length cap)))
 | .tab x a n c=>.iface 43 (.agg (x.cells (.slice a n c)))
def bU.tx:bU→List Value
 | .aR x a n c=>[.slice a n c]
 | .msg x ds b o cap a=>ds.map (·.2)
 | _=>[]
def bU.rw:bU→List Value
 | .tab x a n c=>[.slice a n c]
 | _=>[]
def bU.sg:bU→List Value
 | .msg x ds b o cap a=>[.slice a ds.length cap]
 | _=>[]
def bU.OK (w0:World) (kb:Nat):bU→Prop
 | .msg x ds b o cap a=>(∀ p∈ds,∃ a n c,p.2=.slice a n c)∧b < w0.heap.size∧b≠kb∧(∀ i (hi:i < ds.length),w0.rangeAt b (o+i*19) (ds[i].1.cells ds[i].2).toList)∧(0 < ds.length→a=some ⟨b,o,none⟩)
 | _=>True
theorem aA.cellAt {kp b off:Nat} {w w':World} {v:Value} (ho:aA kp w w') (hb:b < w.heap.size) (hne:b≠kp) (h:w.cell? ⟨b,off,none⟩=some v):w'.cell? ⟨b,off,none⟩=some v:=by
 have e:=ho.block b hb Iq;unfold World.cell? at h ⊢;simp only[e];exact h
theorem RR {α:Type} {L:List bU} (f:bU→List α) (X:List α) {i:Nat} (hi:i < L.length):X++(L.take i).flatMap f++f L[i]=X++(L.take (i+1)).flatMap f:=by
 rw[← List.take_append_getElem hi,zx,o6];simp
theorem XK {α:Type} {L:List bU} (f:bU→List α) (X:List α) {i:Nat} (hi:i < L.length):(X++(L.take i).flatMap f).length+(f L[i]).length≤(X++L.flatMap f).length:=by
 have h:=jA List.length (RR f X hi);rw[ey]at h;have h2:((L.take (i+1)).flatMap f).length≤(L.flatMap f).length:=by
  conv=>rhs;rw[← ID (i+1) L,zx,ey]
  omega
 simp only[ey]at h ⊢;omega
theorem afP (L:List bU) (hL:L.length≤100000000) (w0:World) (kb:Nat) (dp:∀ y∈L,y.OK w0 kb) (b o cap:Nat) (hb:b < w0.heap.size) (hne:b≠kb) (hc:∀ i (hi:i < L.length),w0.cell? ⟨b,o+i,none⟩=some L[i].val)
  (TX RW SG:List Value) (h1:(TX++L.flatMap bU.tx).length≤100000000) (h2:(RW++L.flatMap bU.rw).length≤100000000) (h3:(SG++L.flatMap bU.sg).length≤100000000) (a:Option Addr) (ha:0 < L.length→a=some ⟨b,o,none⟩) (w:World) (h:ie w0 w kb TX RW SG) :
  Calls prog 25 #[.pointer (some ⟨kb,0,none⟩),.slice a L.length cap] w fun e w'=>e=.returned (.tuple #[])∧ie w0 w' kb (TX++L.flatMap bU.tx) (RW++L.flatMap bU.rw) (SG++L.flatMap bU.sg):=by
 have dS:Hid (ie w0 w kb (TX++(L.take 0).flatMap bU.tx) (RW++(L.take 0).flatMap bU.rw) (SG++(L.take 0).flatMap bU.sg)):=Qh vK;have HC:=Qh hc;have ky:=Qh dp;refine fQ h1 h2 h3 aem ?_;intro H1 H2 H3 BI;have hmm:=aen;have htt:=aeo;have M5:=XJ (t:=26) ah;have hVM:=notM (t:=26) ah;have hVT:=ao1 (t:=26) ah;have hMS:=XJ (t:=39) ah;have hTS:=XJ (t:=43) ah;have hTM:=notM (t:=43) ah;clear h hc dp h1 h2 h3;go_enter func25,ntmps25
 go_wp2_with fail;go_loopw [4] (fun kv wr=>∃ i:Nat,i≤L.length∧kv=.int .i64 (i:Nat)∧ie w0 wr kb (TX++(L.take i).flatMap bU.tx) (RW++(L.take i).flatMap bU.rw) (SG++(L.take i).flatMap bU.sg)) (fun kv _=>L.length - (intOf kv).toNat)
 case atStart=>exact⟨0,bV _,rfl,dS.o⟩
 case round=>
  clear dS;obtain⟨i,hi,rfl,hB⟩:=hrel;by_cases hlt:(i:Int) < L.length
  ·have a8:i < L.length:=ae;have HI:=Qh (show i+1≤L.length by omega);have hap:=ha ae;have hcl:=aA.cellAt hB.only hb hne (HC.o i a8);have RT:=ky.o _ (gU a8);have g1:=XK bU.tx TX a8;have g2:=XK bU.rw RW a8;have g3:=XK bU.sg SG a8;have b1:=H1.o;have b2:=H2.o;have b3:=H3.o;have e1:=RR bU.tx TX a8;have e2:=RR bU.rw RW a8;have e3:=RR bU.sg SG a8;have l1:(TX++(L.take i).flatMap bU.tx).length+(bU.tx L[i]).length≤100000000:=ae;have l2:(RW++(L.take i).flatMap bU.rw).length+(bU.rw L[i]).length≤100000000:=ae;have l3:(SG++(L.take i).flatMap bU.sg).length+(bU.sg L[i]).length≤100000000:=ae;subst hap;generalize TX++(L.take i).flatMap bU.tx=A1 at *;generalize RW++(L.take i).flatMap bU.rw=A2 at *;generalize SG++(L.take i).flatMap bU.sg=A3 at *;have HB:=Qh hB;clear hB g1 g2 g3 b1 b2 b3;generalize L[i]=y at *;have HK:=Qh (fun o:Obj=>HB.o.keep ((aC wr.heap.size wr).alloc af o));cases y with
   | bG C=>
    unfold bU.val at hcl;have HE:Hid (ie w0 wr kb (TX++(L.take (i+1)).flatMap bU.tx) (RW++(L.take (i+1)).flatMap bU.rw) (SG++(L.take (i+1)).flatMap bU.sg)):=Qh (by rw[← e1,← e2,← e3];simpa [bU.tx,bU.rw,bU.sg]using HB.o);clear e1 e2 e3 l1 l2 l3 RT;go_wp2_with fail;go_roundw;case rel=>exact⟨i+1,HI.o,bL,HE.o⟩
    case measure=>have hI:=HI.o;exact bY
   | aR x xa xn xc=>
    unfold bU.val at hcl;have cc:=Qh (fun W hW=>ajQ x xa xn xc w0 kb A1 A2 A3 ae W hW);have HE:=Qh (fun W (hW:ie w0 W kb (A1++[.slice xa xn xc]) A2 A3)=>show ie w0 W kb (TX++(L.take (i+1)).flatMap bU.tx) (RW++(L.take (i+1)).flatMap bU.rw) (SG++(L.take (i+1)).flatMap bU.sg)by rw[← e1,← e2,← e3];simpa [bU.tx,bU.rw,bU.sg]using hW);clear e1 e2 e3 l1 l2 l3 RT;unfold fH.cells at hcl cc;go_wp2_with fail;refine aQ (cc.o _ (HK.o _)) ?_;intro w2 hB
    have zN:=Qh (HE.o _ hB);clear hB;go_wp2_with fail;go_roundw;case rel=>exact⟨i+1,HI.o,bL,zN.o⟩
    case measure=>have hI:=HI.o;exact bY
   | msg x ds sb so afQ sa=>
    unfold bU.val at hcl;obtain⟨o1,o2,o3,o4,o5⟩:=RT;have l1':A1.length+ds.length≤100000000:=(by simpa [bU.tx]using l1);have cc:=Qh (fun W hW=>ajT x ds o1 sb so afQ w0 kb o2 o3 o4 A1 A2 A3 l1' ae ds.length rfl sa o5 W hW);have HE:=Qh (fun W (hW:ie w0 W kb (A1++ds.map (·.2)) A2 (A3++[.slice sa ds.length afQ]))=>show ie w0 W kb (TX++(L.take (i+1)).flatMap bU.tx) (RW++(L.take (i+1)).flatMap bU.rw) (SG++(L.take (i+1)).flatMap bU.sg)by rw[← e1,← e2,← e3];simpa [bU.tx,bU.rw,bU.sg]using hW);clear e1 e2 e3 l1 l1' l2 l3 o1 o2 o3 o4 o5;unfold bj.cells at hcl cc;go_wp2_with fail;refine aQ (cc.o _ (HK.o _)) ?_;intro w2 hB
    have zN:=Qh (HE.o _ hB);clear hB;go_wp2_with fail;go_roundw;case rel=>exact⟨i+1,HI.o,bL,zN.o⟩
    case measure=>have hI:=HI.o;exact bY
   | tab x xa xn xc=>
    unfold bU.val at hcl;have cc:=Qh (fun W hW=>ajR x xa xn xc w0 kb A1 A2 A3 ae W hW);have HE:=Qh (fun W (hW:ie w0 W kb A1 (A2++[.slice xa xn xc]) A3)=>show ie w0 W kb (TX++(L.take (i+1)).flatMap bU.tx) (RW++(L.take (i+1)).flatMap bU.rw) (SG++(L.take (i+1)).flatMap bU.sg)by rw[← e1,← e2,← e3];simpa [bU.tx,bU.rw,bU.sg]using hW);clear e1 e2 e3 l1 l2 l3 RT;unfold bK.cells at hcl cc;go_wp2_with fail;refine aQ (cc.o _ (HK.o _)) ?_;intro w2 hB
    have zN:=Qh (HE.o _ hB);clear hB;go_wp2_with fail;go_roundw;case rel=>exact⟨i+1,HI.o,bL,zN.o⟩
    case measure=>have hI:=HI.o;exact bY
  ·have vU:i=L.length:=ae;have eE:=Qh (show ie w0 wr kb (TX++L.flatMap bU.tx) (RW++L.flatMap bU.rw) (SG++L.flatMap bU.sg)by rw[vU,vN]at hB;exact hB);clear hB vU;go_wp2_with fail;exact⟨rfl,.tuple #[],by simp[results,results25],rfl,eE.o⟩
end Go.Proofs.YtfflljgnpfldfaaGreatDoor
