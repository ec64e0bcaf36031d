/-
  The reference's reader: the table: contract. (Printed by gen_redk.py.)
-/
import Derived.Test.YtfflljgnpfldfaaGreatDoorRedI
set_option linter.all false
set_option maxHeartbeats 128000000
set_option maxRecDepth 100000
namespace Go.Proofs.YtfflljgnpfldfaaGreatDoor
open Go.Proofs.Tryz
open Go.RowKit
def lB:bj:=⟨0,0,0,false,[],0,[],[]⟩
def aah (kr:Nat) (w:World) (T:List aw) (R:bj×aF) (e:Ending) (w':World):Prop:=
 ∃ (x:bj) (C:Array Value),e=.returned (.agg C)∧jK w.heap.size w' x C.toList∧aA kr w w'∧bD w' kr T R.2∧(R.2.isOk→R.1=x)
theorem bD.kind {w:World} {kr:Nat} {T:List aw} {st:aF} (h:bD w kr T st):∃ C,w.heap[kr]? = some (.cells C 126):=by
 cases st with
 | ok ts=>obtain⟨i,h1,h2,a,cap,h3,-⟩:=h;exact⟨_,h3⟩
 | bad n l c=>obtain⟨h0,i,h1,a,cap,h3,-⟩:=h;exact⟨_,h3⟩
theorem ahO {β:Type} {st:aF} {f:Nat} {l:List et} (d:β) (KF:List et→List aw→PR β) (hf:∀ ts,st=.ok ts→1≤f) (h:∀ ts,st=.ok ts→dt [83,71,95] ts=false):st.run d (fun ts=>(kg f l ts).bind KF)=st.run d (KF l):=by
 cases st with
 | bad n l c=>rfl
 | ok ts=>
  obtain⟨f',rfl⟩:∃ f',f=f' + 1:=⟨f - 1,Io⟩
  refine nD ?_;rw[show kg (f' + 1) l ts=.ok l ts by unfold kg;rw[if_neg LD]];rfl
theorem asj {β:Type} {ts:List aw} {f:Nat} {l:List et} (d:β) (KF:List et→List aw→PR β) (h:dt [83,71,95] ts=true) (hl:l.length=64):(aF.ok ts).run d (fun ts=>(kg (f+1) l ts).bind KF)=(d,(aF.ok ts).ko 5):=by
 refine nD ?_;rw[show kg (f+1) l ts=eY 5 ts by unfold kg;rw[if_pos h,if_pos hl]];rfl
theorem asl {β:Type} {ts:List aw} {f:Nat} {l:List et} (d:β) (KF:List et→List aw→PR β) (h:dt [83,71,95] ts=true) (hl:l.length≠64) (x:et) (hx:((aF.ok ts).run kX nc).2.isOk→((aF.ok ts).run kX nc).1=x) :
  (aF.ok ts).run d (fun ts=>(kg (f+1) l ts).bind KF)=((aF.ok ts).run kX nc).2.run d (fun tz=>(kg f (l++[x]) tz).bind KF):=by
 have ht:kg (f+1) l ts=(nc ts).bind fun x aJ=>kg f (l++[x]) aJ:=by
  conv=>lhs;unfold kg
  rw[if_pos h,if_neg hl]
 cases hn:nc ts with
 | ok y t=>
  have e:(aF.ok ts).run kX nc=(y,.ok t):=by
   refine nD ?_;rw[hn]
  rw[e]at hx ⊢;have hy:y=x:=hx trivial;subst hy;exact H9
 | bad a b c=>
  have e:(aF.ok ts).run kX nc=(kX,.bad a b c):=by
   refine nD ?_;rw[hn]
  rw[e];exact H9
theorem ahP (T:List aw) (hT:mD T) (st:aF) (kr:Nat) (w:World) (h:bD w kr T st) :
  Calls prog 53 #[.pointer (some ⟨kr,0,none⟩)] w fun e w'=>aah kr w T (st.run lB my) e w':=by
 have bm:=hT.b.1.pos;have hlen:=hT.b.2.2;obtain⟨R,hR⟩:∃ R,R=st.run lB my:=⟨_,rfl⟩
 rw[← hR];unfold my at hR;have HR:=Qh hR;clear hR;have dG:=h.lt;have hb0:Below w.heap.size w (w.alloc (.cells fE 39)):=(aC _ _).alloc af _;refine fQ (aA.of_below kr hb0) (h.keep hb0) (dK w (.cells fE 39)) yF ?_;intro HO HP HZ hf2;have hf0:=pC;obtain⟨i,no,l0,c0,hi,ud,sM⟩:=HP.o.head;have cn:=nw T bm hlen i no l0 c0 kr _ hi ud;unfold eG bZ at cn;have np:=Qh (Tm st [66,79,95] i T sM);generalize rI T i=t0 at *;clear hb0 h ud sM;go_enter func53,ntmps53
 go_wp2_with fail;refine aQ cn ?_;intro W1 hb;refine aY (bF HZ.o hb) (HO.o.trans (aA.of_below kr hb)) (HP.o.keep hb) ?_;intro HZ HO HP;clear cn hb;obtain⟨C0,jJ⟩:∃ C,C=(⟨t0.line,t0.ak,0,false,[],0,[],[]⟩:bj).cells (.slice none 0 0):=⟨_,rfl⟩
 have oX:=Qh jJ;have sX:C0.size=8:=Fk;have uY:C0.all (·.oneCell')=true:=(by rw[jJ];exact bj.cells_one _ _ _ _);clear jJ;go_upto_region 2 with (refine eX (Z:=fE) (cs:=C0) 39 (.tmp 3) (.tmp 9) (by rw[sX];exact DT) Fl uY ?_ (hy:=Fj))
 have cH:Below W1.heap.size W1 (W1.alloc (.cells C0 39)):=(aC _ _).alloc af _;refine Lb ?_;intro Kn cz
 have dL:kr < W1.heap.size:=ae;have HC:=Qh (show(W1.alloc (.cells C0 39)).heap[W1.heap.size]? = some (.cells ((⟨t0.line,t0.ak,0,false,[],0,[],[]⟩:bj).cells (.slice none 0 0)) 39)by rw[← oX.o];exact dK W1 _);refine aY (bF HZ.o cH) (HO.o.trans (aA.of_below kr cH)) (HP.o.keep cH) ?_;intro HZ HO HP;clear cH;generalize ij:W1.heap.size=ks at *;generalize W1.alloc (.cells C0 39)=W2 at *;have cc:=pI 1 [66,79,95] ⟨_,_,rfl,.inl ⟨rfl,ah⟩⟩ T hT st kr _ HP.o;have AZ:=np.o;refine Ux (iA eL HR.o) ?_;intro t s1 np yR cc HR
 go_wp2_with fail;refine aI cc ?_;clear cc;refine jd ?_;intro W3 HZ HC HO HP;refine mM (ahH T hT s1 kr _ HP.o) (iA (0,false) HR.o) ?_;intro ib s2 cc HR
 go_wp2_with fail;refine aI cc ?_;clear cc;refine aa3 ?_;intro W4 HZ HC HO HP c2 r2 c3 r3 Zu Zv
 have bo:=Qh (show((W4.setCell ⟨ks,2,none⟩ (.int .u32 (ib.1:Nat))).setCell ⟨ks,3,none⟩ (.bool ib.2)).heap[ks]? = some (.cells ((⟨t0.line,t0.ak,ib.1,ib.2,[],0,[],[]⟩:bj).cells (.slice none 0 0)) 39)from (bJ (bJ HC.o 2 (.int .u32 (ib.1:Nat))) 3 (.bool ib.2)));have aU:=Qh (aA.new (aA.new HO.o ks cz 2 (.int .u32 (ib.1:Nat))) ks cz 3 (.bool ib.2));have bC:=Qh (dH (dH HZ.o (show w.heap.size≠ks by omega) 2 (.int .u32 (ib.1:Nat))) (show w.heap.size≠ks by omega) 3 (.bool ib.2));have bw:=Qh (bD.set (bD.set HP.o dL 2 (.int .u32 (ib.1:Nat))) dL 3 (.bool ib.2));go_upto_region 4 with fail
 clear c2 r2 c3 r3;have HC:=bo;have HO:=aU;have HZ:=bC;have HP:=bw;clear bo aU bC bw;generalize ((W4.setCell ⟨ks,2,none⟩ (.int .u32 (ib.1:Nat))).setCell ⟨ks,3,none⟩ (.bool ib.2))=W5 at *;refine mM (Hf T hT s2 kr _ HP.o) (iA [] HR.o) ?_;intro nm s3 cc HR
 go_wp2_with fail;refine aI cc ?_;clear cc;refine O3 ?_;intro W6 HZ HC HO HP c4 r4;have bo:=Qh (show(W6.setCell ⟨ks,4,none⟩ (.string ⟨nm.toArray⟩)).heap[ks]? = some (.cells ((⟨t0.line,t0.ak,ib.1,ib.2,nm,0,[],[]⟩:bj).cells (.slice none 0 0)) 39)from (bJ HC.o 4 (.string ⟨nm.toArray⟩)));have aU:=Qh (aA.new HO.o ks cz 4 (.string ⟨nm.toArray⟩));have bC:=Qh (dH HZ.o (show w.heap.size≠ks by omega) 4 (.string ⟨nm.toArray⟩));have bw:=Qh (bD.set HP.o dL 4 (.string ⟨nm.toArray⟩));go_upto_region 5 with fail
 clear c4 r4;have HC:=bo;have HO:=aU;have HZ:=bC;have HP:=bw;clear bo aU bC bw;generalize (W6.setCell ⟨ks,4,none⟩ (.string ⟨nm.toArray⟩))=W7 at *;refine mM (pI 4 [58] ⟨_,[],rfl,.inr ⟨rfl,ah⟩⟩ T hT s3 kr _ HP.o) (iA eL HR.o) ?_;intro k1 s4 cc HR
 go_wp2_with fail;refine aI cc ?_;clear cc;refine jd ?_;intro W8 HZ HC HO HP;have cc:=aaf T hT s4 kr _ HP.o;obtain⟨sz,s5,hx,hs,hr⟩:=iA 0 HR.o;have hlt2:=aae s4 2147483648 ah;rw[← hx]at hlt2;rw[← hs]at cc;try rw[← hx]at cc
 have HR:=Qh hr;clear hr hx hs;go_wp2_with fail;refine aI cc ?_;clear cc;refine jd ?_;intro W9 HZ HC HO HP;have c5:=ai.cell ⟨_,HC.o⟩ 5 (.int .i64 0) rfl;have r5:=ai.free ⟨_,HC.o⟩ 5;have bo:=Qh (show(W9.setCell ⟨ks,5,none⟩ (.int .i64 (sz:Nat))).heap[ks]? = some (.cells ((⟨t0.line,t0.ak,ib.1,ib.2,nm,sz,[],[]⟩:bj).cells (.slice none 0 0)) 39)from (bJ HC.o 5 (.int .i64 (sz:Nat))));have aU:=Qh (aA.new HO.o ks cz 5 (.int .i64 (sz:Nat)));have bC:=Qh (dH HZ.o (show w.heap.size≠ks by omega) 5 (.int .i64 (sz:Nat)));have bw:=Qh (bD.set HP.o dL 5 (.int .i64 (sz:Nat)));go_upto_region 7 with fail
 clear c5 r5;have HC:=bo;have HO:=aU;have HZ:=bC;have HP:=bw;clear bo aU bC bw;generalize (W9.setCell ⟨ks,5,none⟩ (.int .i64 (sz:Nat)))=NG at *;refine mM (Hf T hT s5 kr _ HP.o) (iA [] HR.o) ?_;intro sd s6 cc HR
 go_wp2_with fail;refine aI cc ?_;clear cc;refine jd ?_;intro NH HZ HC HO HP;have c6:=ai.cell ⟨_,HC.o⟩ 6 (.string ⟨#[]⟩) rfl;have r6:=ai.free ⟨_,HC.o⟩ 6;have bo:=Qh (show(NH.setCell ⟨ks,6,none⟩ (.string ⟨sd.toArray⟩)).heap[ks]? = some (.cells ((⟨t0.line,t0.ak,ib.1,ib.2,nm,sz,sd,[]⟩:bj).cells (.slice none 0 0)) 39)from (bJ HC.o 6 (.string ⟨sd.toArray⟩)));have aU:=Qh (aA.new HO.o ks cz 6 (.string ⟨sd.toArray⟩));have bC:=Qh (dH HZ.o (show w.heap.size≠ks by omega) 6 (.string ⟨sd.toArray⟩));have bw:=Qh (bD.set HP.o dL 6 (.string ⟨sd.toArray⟩));go_upto_region 8 with fail
 clear c6 r6;have HC:=bo;have HO:=aU;have HZ:=bC;have HP:=bw;clear bo aU bC bw;generalize (NH.setCell ⟨ks,6,none⟩ (.string ⟨sd.toArray⟩))=NI at *;obtain⟨KF,gu,jb⟩:∃ KF:List et→List aw→PR bj,R=s6.run lB (fun ts=>(kg ts.length [] ts).bind KF)∧KF=fun l ts=>.ok ⟨t.line,t.ak,ib.1,ib.2,nm,sz,sd,l⟩ ts:=⟨_,HR.o,rfl⟩
 have jh:=Qh jb;obtain⟨fu,qO,qP⟩:∃ fu:Nat,(∀ ts,s6=.ok ts→ts.length≤fu∧0+ts.length≤T.length)∧R=s6.run lB (fun ts=>(kg fu [] ts).bind KF):=by
  cases s6 with
  | bad a b c=>exact⟨0,(fun ts e=>sW),gu⟩
  | ok ts=>
   obtain⟨j,hj,rfl,-⟩:=HP.o;exact Ut
 have ue:=Qh qO;have uf:=Qh qP;clear gu jb qO qP;go_wp2_with fail;go_loopw [4] (fun kv wr=>∃ (k fu:Nat) (l:List et) (v:Value) (s1:aF),kv=.int .i64 (k:Nat)∧k≤T.length∧l.length≤k∧(∀ ts,s1=.ok ts→ts.length≤fu∧k+ts.length≤T.length)∧R=s1.run lB (fun ts=>(kg fu l ts).bind KF)∧bD wr kr T s1∧aA kr w wr∧wr.heap[ks]? = some (.cells ((⟨t0.line,t0.ak,ib.1,ib.2,nm,sz,sd,[]⟩:bj).cells (v)) 39)∧wr.heap[w.heap.size]? = some (.cells fE 39)∧aZ wr w.heap.size 63 (mW w.heap.size) 19 v l) (fun kv _=>T.length - (intOf kv).toNat)
 case atStart=>exact⟨0,fu,[],_,s6,rfl,bV _,aB,ue.o,uf.o,HP.o,HO.o,HC.o,HZ.o,aZ.nil _ _ _ _ _⟩
 case round=>
  obtain⟨k,EK,l,v,s1,rfl,hk,hlk,hf,hr1,fL,ho1,hc1,hz1,hown⟩:=hrel;obtain⟨ap,ahN,Cr⟩:=fL.cell0;refine aY ho1 fL hf ?_;intro fM iF gP;refine lC hr1 hc1 hz1 hown ?_;intro dY oI k9 rJ;have fk:∀ ts,s1=.ok ts→1≤ts.length:=fun ts e=>by
   exact O2
  obtain⟨av,cv,rfl,-⟩:=rJ.o.shape;clear fL ho1 hf hr1 hc1 hz1 hown;by_cases pZ:(k:Int) < T.length
  ·have cs:=EJ 1 [83,71,95] T hT s1 kr wr iF.o;cases hS:s1.sees 1 [83,71,95]with
   | false=>
    have hst:∀ ts,s1=.ok ts→dt [83,71,95] ts=false:=fun ts e=>by
     subst e;obtain⟨j,hj,rfl,-⟩:=iF.o;rw[← sL hT hj (k:=1) ⟨83,[71,95],rfl,.inl ⟨rfl,ah⟩⟩];exact hS
    rw[hS]at cs;clear hS;go_wp2_with fail;refine aQ cs ?_;intro w2 hb;have sP:=Qh (fM.o.trans (aA.of_below kr hb));clear cs;refine fx (iF.o.keep hb) (bF oI.o hb) (bF k9.o hb) (rJ.o.keep (vB _) hb) ?_;clear hb;intro vg wP rK wQ;have HV:=Qh (show R=s1.run lB (KF l)by
     rw[dY.o];exact ahO lB KF (fun ts e=>bQ (fk ts e) (gP.o ts e).1) hst)
    clear fk;obtain⟨CC,fB⟩:∃ C,C=(⟨t0.line,t0.ak,ib.1,ib.2,nm,sz,sd,l⟩:bj).cells (.slice av l.length cv):=⟨_,rfl⟩
    have hce:w2.heap[ks]? = some (.cells CC 39):=(by rw[fB];exact wP.o);have eB:=Qh fB;refine UN ?_;intro oW nW;have lU:ai w2 ks CC:=⟨_,hce⟩
    have bz:ai w2 w.heap.size fE:=⟨_,rK.o⟩
    have iP:=underlying39;clear hce fB;go_wp2_with (first|(refine fG lU 39 (.tmp 3) iP Bf ?_)|(refine iC (cs:=CC) bz 39 (.tmp 2) (.tmp 58) Bf xj nW ?_))
    have hrun:=fo (bz.row CC) 39 _ iP rfl Bf;refine bB (v:=.agg CC) (by simp[results,results53,Act.put,asAddr,hrun]) rfl ?_;refine⟨⟨t0.line,t0.ak,ib.1,ib.2,nm,sz,sd,l⟩,CC,rfl,⟨.slice av l.length cv,by rw[eB.o],wQ.o.dn ah (vw _ ah) rK.o qX (fun b _ hne=>gK _ _ _ _ hne)⟩,sP.o.row _ af CC,?_,fun dp=>?_⟩
    ·rw[HV.o,jh.o];dsimp only;rw[(wW s1 lB _).1];exact vg.o.row dG CC
    ·have ht:=np.o (yR.o dp);exact abW
   | true=>
    cases s1 with
    | bad a b c=>cases hS
    | ok ts=>
     have ia:=iF.o;obtain⟨j,hj,rfl,gS⟩:=ia;rw[hS]at cs;rw[sL hT hj (k:=1) ⟨83,[71,95],rfl,.inl ⟨rfl,ah⟩⟩]at hS;obtain⟨jk,hf2⟩:=gP.o _ rfl;have gA:=fk _ rfl;obtain⟨g,rfl⟩:∃ g,EK = g+1:=⟨EK - 1,ae⟩
     have yQ:=Qh hS;have lh:=hT.b.drop hj;clear hS fk gS;go_wp2_with fail;refine aQ cs ?_;intro w2 hb;refine lC (fM.o.trans (aA.of_below kr hb)) (iF.o.keep hb) (bF oI.o hb) (bF k9.o hb) ?_;intro aU bw bo bC;have To:=Qh (rJ.o.keep (vB _) hb);have c7:=ai.cell ⟨_,bo.o⟩ 7 (.slice av l.length cv) rfl;clear cs hb Cr;by_cases oQ:l.length=64
     ·have cw:=Hc 5 ah T hT (.ok (T.drop j)) kr w2 bw.o;have hm:=asj (f:=g) lB KF yQ.o oQ;have HV:=Qh (show R=(lB,(aF.ok (T.drop j)).ko 5)by rw[dY.o];exact hm);have asm:((l.length:Int) == 64)=true:=(by rw[oQ];rfl);have asn:l.length≤1000:=ae;clear oQ;go_wp2_with fail;refine dF cw ?_;intro w3 ho hp;have lZ:=Qh (aU.o.trans ho);have Cq:=Qh hp;have sS:=Qh (eJ bo.o ae ho);have zm:=Qh (eJ bC.o ae ho);obtain⟨CR2,ahQ⟩:=bw.o.kind;have ab9:=Qh (To.o.dn ah (vw _ ah) ahQ ho.size (fun b hb hne=>ho.block b hb Iq));obtain⟨CR,Oc⟩:=Cq.o.kind;have aca:=Qh Oc;have cg:=ahM T hT ((aF.ok (T.drop j)).ko 5) kr w3 Cq.o;rw[show(((aF.ok (T.drop j)).ko 5).run kX nc)=(kX,(aF.ok (T.drop j)).ko 5)from rfl]at cg;unfold aag at cg;clear cw ho hp Oc ahQ hm c7;go_wp2_with fail;refine aI cg ?_;rintro e W4 ⟨x,C6,rfl,dP,ho,hp,yS⟩;have gX:C6.size=19:=PC;have jB:=QQ dP;have p7:=ze kL C6 19 gX rfl;have wZ:=Qh (show mW w.heap.size W4 x C6.toList from by
       obtain⟨u,h1,h2⟩:=dP;exact⟨u,h1,h2.fU lZ.o.size⟩)
      have ny:=Qh (lZ.o.trans ho);refine ab8 hp ?_;intro zl wY pM H6;have CE:=Qh yS;clear cg ho hp dP yS;refine abE (ai.new W4 C6 63) ?_;intro jm iV pF fF vu CG wN;go_upto_region 14 with (refine eX (Z:=kL) (cs:=C6) 63 (.tmp 5) (.tmp 51) (by rw[gX];exact Jc) (by rw[gX];rfl) jB ?_)
      generalize W4.alloc (.cells C6 63)=W5 at *;generalize W4.heap.size=k5 at *;have c75:=ai.cell ⟨_,fF.o⟩ 7 (.slice av l.length cv) rfl;have yT:=underlying63;have hs5:w.heap.size≤W5.heap.size:=iV.o.size;go_wp2_with (first|(refine fG jm 63 (.tmp 5) yT (by rw[gX];exact uA) ?_)|(at_builtin;go_loud (refine xW (vB _) IW l x CG.o (aC w.heap.size W5) hs5 ae wN.o gX jB (vw _ ah) ?_)))
      rintro v6 W6 kA bR gL;refine AV ?_;intro a6 n6 c6 qy
      subst qy;refine aaZ CG.o (aA.low iV.o bR) (bD.low pF.o dG bR) ?_;intro Tp qI eU ve gJ jE ahR Xw D5 Od Oe Og Oh;clear kA bR gL qI p7 jm;go_wp2_with fail;go_roundw;case rel=>exact⟨k+1,g,l++[x],_,(aF.ok (T.drop j)).ko 5,bL,ae,sT,(fun ts e=>sW),HV.o,Og.o,Oe.o,D5.o,Od.o,Oh.o⟩
      case measure=>exact bY
     ·have asm:((l.length:Int) == 64)=false:=bN ae;have lZ:=aU;have Cq:=bw;have sS:=bo;have zm:=bC;have ab9:=To;obtain⟨CR,Oc⟩:=Cq.o.kind;have aca:=Qh Oc;have cg:=ahM T hT (.ok (T.drop j)) kr w2 Cq.o;have sN:=Qh (fun x hx=>asl (f:=g) lB KF yQ.o oQ x hx);obtain⟨q,hq⟩:∃ q,q=(aF.ok (T.drop j)).run kX nc:=⟨_,rfl⟩
      have sU:=Qh (show ∀ ts,q.2=.ok ts→ts.length < (T.drop j).length by
       intro ts e;rw[hq]at e;obtain⟨xx,h2⟩:=EH e;exact(SU _ _ _ h2 lh).2)
      have hgo:=sN.o;rw[← hq]at cg hgo;have sN:=Qh hgo;unfold aag at cg;clear Oc hq hgo;go_wp2_with fail;refine aI cg ?_;rintro e W4 ⟨x,C6,rfl,dP,ho,hp,yS⟩;have gX:C6.size=19:=PC;have jB:=QQ dP;have p7:=ze kL C6 19 gX rfl;have wZ:=Qh (show mW w.heap.size W4 x C6.toList from by
       obtain⟨u,h1,h2⟩:=dP;exact⟨u,h1,h2.fU lZ.o.size⟩)
      have ny:=Qh (lZ.o.trans ho);refine ab8 hp ?_;intro zl wY pM H6;have CE:=Qh yS;clear cg ho hp dP yS;refine abE (ai.new W4 C6 63) ?_;intro jm iV pF fF vu CG wN;go_upto_region 14 with (refine eX (Z:=kL) (cs:=C6) 63 (.tmp 5) (.tmp 51) (by rw[gX];exact Jc) (by rw[gX];rfl) jB ?_)
      generalize W4.alloc (.cells C6 63)=W5 at *;generalize W4.heap.size=k5 at *;have c75:=ai.cell ⟨_,fF.o⟩ 7 (.slice av l.length cv) rfl;have yT:=underlying63;have hs5:w.heap.size≤W5.heap.size:=iV.o.size;go_wp2_with (first|(refine fG jm 63 (.tmp 5) yT (by rw[gX];exact uA) ?_)|(at_builtin;go_loud (refine xW (vB _) IW l x CG.o (aC w.heap.size W5) hs5 ae wN.o gX jB (vw _ ah) ?_)))
      rintro v6 W6 kA bR gL;refine AV ?_;intro a6 n6 c6 qy
      subst qy;refine aaZ CG.o (aA.low iV.o bR) (bD.low pF.o dG bR) ?_;intro Tp qI eU ve gJ jE ahR Xw D5 Od Oe Og Oh;clear kA bR gL qI p7 jm;go_wp2_with fail;go_roundw;case rel=>exact⟨k+1,g,l++[x],_,q.2,bL,ae,sT,(fun ts e=>Ic),by rw[dY.o];exact sN.o x CE.o,Og.o,Oe.o,D5.o,Od.o,Oh.o⟩
      case measure=>exact bY
  ·have hst:∀ ts,s1=.ok ts→dt [83,71,95] ts=false:=fun ts e=>by
    have h1:=(gP.o ts e).2;have h2:=fk ts e;omega
   have sP:=fM;have vg:=iF;have wP:=oI;have rK:=k9;have wQ:=rJ;have HV:=Qh (show R=s1.run lB (KF l)by
    rw[dY.o];exact ahO lB KF (fun ts e=>bQ (fk ts e) (gP.o ts e).1) hst)
   clear fk;obtain⟨CC,fB⟩:∃ C,C=(⟨t0.line,t0.ak,ib.1,ib.2,nm,sz,sd,l⟩:bj).cells (.slice av l.length cv):=⟨_,rfl⟩
   have hce:wr.heap[ks]? = some (.cells CC 39):=(by rw[fB];exact wP.o);have eB:=Qh fB;refine UN ?_;intro oW nW;have lU:ai wr ks CC:=⟨_,hce⟩
   have bz:ai wr w.heap.size fE:=⟨_,rK.o⟩
   have iP:=underlying39;clear hce fB;go_wp2_with (first|(refine fG lU 39 (.tmp 3) iP Bf ?_)|(refine iC (cs:=CC) bz 39 (.tmp 2) (.tmp 58) Bf xj nW ?_))
   have hrun:=fo (bz.row CC) 39 _ iP rfl Bf;refine bB (v:=.agg CC) (by simp[results,results53,asAddr,hrun]) rfl ?_;refine⟨⟨t0.line,t0.ak,ib.1,ib.2,nm,sz,sd,l⟩,CC,rfl,⟨.slice av l.length cv,by rw[eB.o],wQ.o.dn ah (vw _ ah) rK.o qX (fun b _ hne=>gK _ _ _ _ hne)⟩,sP.o.row _ af CC,?_,fun dp=>?_⟩
   ·rw[HV.o,jh.o];dsimp only;rw[(wW s1 lB _).1];exact vg.o.row dG CC
   ·have ht:=np.o (yR.o dp);exact abW
def kV:bK:=⟨0,0,0,false,[],[]⟩
def ahS (kr:Nat) (w:World) (T:List aw) (R:bK×aF) (e:Ending) (w':World):Prop:=
 ∃ (x:bK) (C:Array Value),e=.returned (.agg C)∧nN w.heap.size w' x C.toList∧aA kr w w'∧bD w' kr T R.2∧(R.2.isOk→R.1=x)
theorem aso:(prog.info? 45).map (fun i=>(i.zero,i.size))=some (some (.agg #[.int .i64 0,.string ⟨#[]⟩]),2):=aj
theorem Xk:(prog.info? 45).map (·.size)=some 2:=aj
theorem aai {β:Type} {st:aF} {f:Nat} {l:List (Int×List UInt8)} (d:β) (KF:List (Int×List UInt8)→List aw→PR β) (hf:∀ ts,st=.ok ts→1≤f) (h:∀ ts,st=.ok ts→(ax ts).kind≠2):st.run d (fun ts=>(nP f l ts).bind KF)=st.run d (KF l):=by
 cases st with
 | bad n l c=>rfl
 | ok ts=>
  obtain⟨f',rfl⟩:∃ f',f=f' + 1:=⟨f - 1,Io⟩
  refine nD ?_;rw[ahI,if_neg (h ts rfl)];rfl
theorem asp {β:Type} {ts:List aw} {f:Nat} {l:List (Int×List UInt8)} (d:β) (KF:List (Int×List UInt8)→List aw→PR β) (h:(ax ts).kind=2) (x:Int×List UInt8) (hx:((aF.ok ts).run (0,[]) (qh l.length)).2.isOk→((aF.ok ts).run (0,[]) (qh l.length)).1=x) :
  (aF.ok ts).run d (fun ts=>(nP (f+1) l ts).bind KF)=((aF.ok ts).run (0,[]) (qh l.length)).2.run d (fun tz=>(nP f (l++[x]) tz).bind KF):=by
 have ht:=ahI f l ts;rw[if_pos h]at ht;cases hn:qh l.length ts with
 | ok y t=>
  have e:(aF.ok ts).run (0,[]) (qh l.length)=(y,.ok t):=by
   refine nD ?_;rw[hn]
  rw[e]at hx ⊢;have hy:y=x:=hx trivial;subst hy;exact H9
 | bad a b c=>
  have e:(aF.ok ts).run (0,[]) (qh l.length)=((0,[]),.bad a b c):=by
   refine nD ?_;rw[hn]
  rw[e];exact H9
theorem asq {n:Nat} {ts aJ:List aw} {x:Int×List UInt8} (h:qh n ts=.ok x aJ) (hb:di ts) (hk:(ax ts).kind=2):aJ.length < ts.length:=by
 unfold qh eY at h;split at h
 ·cases h
 ·split at h
  ·cases h
  ·obtain⟨y,t,h1,h2⟩:=gH h;obtain⟨b1,l1⟩:=GY _ _ _ _ h1 (hb.tail qp);cases h2
   have:=tV hb;omega
theorem asr (T:List aw) (hT:mD T) (st:aF) (kr:Nat) (w:World) (h:bD w kr T st) :
  Calls prog 54 #[.pointer (some ⟨kr,0,none⟩)] w fun e w'=>ahS kr w T (st.run kV mC) e w':=by
 have bm:=hT.b.1.pos;have hlen:=hT.b.2.2;obtain⟨R,hR⟩:∃ R,R=st.run kV mC:=⟨_,rfl⟩
 rw[← hR];unfold mC at hR;have HR:=Qh hR;clear hR;have dG:=h.lt;have hb0:Below w.heap.size w (w.alloc (.cells iD 43)):=(aC _ _).alloc af _;refine fQ (aA.of_below kr hb0) (h.keep hb0) (dK w (.cells iD 43)) yF ?_;intro HO HP HZ hf2;have hf0:=pC;obtain⟨i,no,l0,c0,hi,ud,sM⟩:=HP.o.head;have cn:=nw T bm hlen i no l0 c0 kr _ hi ud;unfold eG bZ at cn;have np:=Qh (Tm st [86,65,76,95] i T sM);generalize rI T i=t0 at *;clear hb0 h ud sM;go_enter func54,ntmps54
 go_wp2_with fail;refine aQ cn ?_;intro W1 hb;refine aY (bF HZ.o hb) (HO.o.trans (aA.of_below kr hb)) (HP.o.keep hb) ?_;intro HZ HO HP;clear cn hb;obtain⟨C0,jJ⟩:∃ C,C=(⟨t0.line,t0.ak,0,false,[],[]⟩:bK).cells (.slice none 0 0):=⟨_,rfl⟩
 have oX:=Qh jJ;have sX:C0.size=6:=Fk;have uY:C0.all (·.oneCell')=true:=(by rw[jJ];exact bK.cells_one _ _ _ _);clear jJ;go_upto_region 2 with (refine eX (Z:=iD) (cs:=C0) 43 (.tmp 3) (.tmp 9) (by rw[sX];exact FW) Fl uY ?_ (hy:=Fj))
 have cH:Below W1.heap.size W1 (W1.alloc (.cells C0 43)):=(aC _ _).alloc af _;refine Lb ?_;intro Kn cz
 have dL:kr < W1.heap.size:=ae;have HC:=Qh (show(W1.alloc (.cells C0 43)).heap[W1.heap.size]? = some (.cells ((⟨t0.line,t0.ak,0,false,[],[]⟩:bK).cells (.slice none 0 0)) 43)by rw[← oX.o];exact dK W1 _);refine aY (bF HZ.o cH) (HO.o.trans (aA.of_below kr cH)) (HP.o.keep cH) ?_;intro HZ HO HP;clear cH;generalize ij:W1.heap.size=ks at *;generalize W1.alloc (.cells C0 43)=W2 at *;have cc:=pI 1 [86,65,76,95] ⟨_,_,rfl,.inl ⟨rfl,ah⟩⟩ T hT st kr _ HP.o;have AZ:=np.o;refine Ux (iA eL HR.o) ?_;intro t s1 np yR cc HR
 go_wp2_with fail;refine aI cc ?_;clear cc;refine jd ?_;intro W3 HZ HC HO HP;refine mM (ahH T hT s1 kr _ HP.o) (iA (0,false) HR.o) ?_;intro ib s2 cc HR
 go_wp2_with fail;refine aI cc ?_;clear cc;refine aa3 ?_;intro W4 HZ HC HO HP c2 r2 c3 r3 Zu Zv
 have bo:=Qh (show((W4.setCell ⟨ks,2,none⟩ (.int .u32 (ib.1:Nat))).setCell ⟨ks,3,none⟩ (.bool ib.2)).heap[ks]? = some (.cells ((⟨t0.line,t0.ak,ib.1,ib.2,[],[]⟩:bK).cells (.slice none 0 0)) 43)from (bJ (bJ HC.o 2 (.int .u32 (ib.1:Nat))) 3 (.bool ib.2)));have aU:=Qh (aA.new (aA.new HO.o ks cz 2 (.int .u32 (ib.1:Nat))) ks cz 3 (.bool ib.2));have bC:=Qh (dH (dH HZ.o (show w.heap.size≠ks by omega) 2 (.int .u32 (ib.1:Nat))) (show w.heap.size≠ks by omega) 3 (.bool ib.2));have bw:=Qh (bD.set (bD.set HP.o dL 2 (.int .u32 (ib.1:Nat))) dL 3 (.bool ib.2));go_upto_region 4 with fail
 clear c2 r2 c3 r3;have HC:=bo;have HO:=aU;have HZ:=bC;have HP:=bw;clear bo aU bC bw;generalize ((W4.setCell ⟨ks,2,none⟩ (.int .u32 (ib.1:Nat))).setCell ⟨ks,3,none⟩ (.bool ib.2))=W5 at *;refine mM (Hf T hT s2 kr _ HP.o) (iA [] HR.o) ?_;intro nm s3 cc HR
 go_wp2_with fail;refine aI cc ?_;clear cc;refine O3 ?_;intro W6 HZ HC HO HP c4 r4;have bo:=Qh (show(W6.setCell ⟨ks,4,none⟩ (.string ⟨nm.toArray⟩)).heap[ks]? = some (.cells ((⟨t0.line,t0.ak,ib.1,ib.2,nm,[]⟩:bK).cells (.slice none 0 0)) 43)from (bJ HC.o 4 (.string ⟨nm.toArray⟩)));have aU:=Qh (aA.new HO.o ks cz 4 (.string ⟨nm.toArray⟩));have bC:=Qh (dH HZ.o (show w.heap.size≠ks by omega) 4 (.string ⟨nm.toArray⟩));have bw:=Qh (bD.set HP.o dL 4 (.string ⟨nm.toArray⟩));go_upto_region 5 with fail
 clear c4 r4;have HC:=bo;have HO:=aU;have HZ:=bC;have HP:=bw;clear bo aU bC bw;generalize (W6.setCell ⟨ks,4,none⟩ (.string ⟨nm.toArray⟩))=W7 at *;obtain⟨KF,gu,jb⟩:∃ KF:List (Int×List UInt8)→List aw→PR bK,R=s3.run kV (fun ts=>(nP ts.length [] ts).bind KF)∧KF=fun l ts=>(cj [59] ts).bind fun _ ts=>.ok ⟨t.line,t.ak,ib.1,ib.2,nm,l⟩ ts:=⟨_,HR.o,rfl⟩
 have jh:=Qh jb;obtain⟨fu,qO,qP⟩:∃ fu:Nat,(∀ ts,s3=.ok ts→ts.length≤fu∧0+ts.length≤T.length)∧R=s3.run kV (fun ts=>(nP fu [] ts).bind KF):=by
  cases s3 with
  | bad a b c=>exact⟨0,(fun ts e=>sW),gu⟩
  | ok ts=>
   obtain⟨j,hj,rfl,-⟩:=HP.o;exact Ut
 have ue:=Qh qO;have uf:=Qh qP;clear gu jb qO qP;go_wp2_with fail;go_loopw [4] (fun kv wr=>∃ (k fu:Nat) (l:List (Int×List UInt8)) (v:Value) (s1:aF),kv=.int .i64 (k:Nat)∧k≤T.length∧l.length≤k∧(∀ ts,s1=.ok ts→ts.length≤fu∧k+ts.length≤T.length)∧R=s1.run kV (fun ts=>(nP fu l ts).bind KF)∧bD wr kr T s1∧aA kr w wr∧wr.heap[ks]? = some (.cells ((⟨t0.line,t0.ak,ib.1,ib.2,nm,[]⟩:bK).cells (v)) 43)∧wr.heap[w.heap.size]? = some (.cells iD 43)∧aG wr w.heap.size 45 2 fS v l) (fun kv _=>T.length - (intOf kv).toNat)
 case atStart=>exact⟨0,fu,[],_,s3,rfl,bV _,aB,ue.o,uf.o,HP.o,HO.o,HC.o,HZ.o,aG.nil _ _ _ _ _⟩
 case round=>
  obtain⟨k,EK,l,v,s1,rfl,hk,hlk,hf,hr1,fL,ho1,hc1,hz1,hown⟩:=hrel;obtain⟨ap,ahN,Cr⟩:=fL.cell0;refine aY ho1 fL hf ?_;intro fM iF gP;refine lC hr1 hc1 hz1 hown ?_;intro dY oI k9 rJ;have fk:∀ ts,s1=.ok ts→1≤ts.length:=fun ts e=>by
   exact O2
  obtain⟨av,cv,rfl,-⟩:=rJ.o.shape;clear fL ho1 hf hr1 hc1 hz1 hown;by_cases pZ:(k:Int) < T.length
  ·cases s1 with
   | bad a b c=>
    have hst:∀ ts,aF.bad a b c=.ok ts→(ax ts).kind≠2:=fun ts e=>sW
    obtain⟨h0,j,hj,gS⟩:=iF.o;obtain⟨vj,oT⟩:=gS.cells;have f2:=oT.cell 2 (.int .i64 a) rfl;have e0:=bN h0;have sP:=fM;have vg:=iF;have wP:=oI;have rK:=k9;have wQ:=rJ;clear gS oT;have HV:=Qh (show R=(aF.bad a b c).run kV (KF l)by
     rw[dY.o];exact aai kV KF (fun ts e=>bQ (fk ts e) (gP.o ts e).1) hst)
    clear fk;have hv:=HV.o;rw[jh.o]at hv;dsimp only at hv;rw[run_bind (aF.bad a b c) eL kV (cj [59])]at hv;have cM:=pI 4 [59] ⟨59,[],rfl,.inr ⟨rfl,ah⟩⟩ T hT (aF.bad a b c) kr _ vg.o;obtain⟨s9,Fa⟩:∃ s,s=((aF.bad a b c).run eL (cj [59])).2:=⟨_,rfl⟩
    refine US ?_;clear Fa;intro cM HV;go_wp2_with fail;refine aI cM ?_;clear cM;refine TV underlying43 ?_;intro w9 Oi UR HCY Oj Ok CC eB oW nW lU bz iP
    go_wp2_with (first|(refine fG lU 43 (.tmp 3) iP vG ?_)|(refine iC (cs:=CC) bz 43 (.tmp 2) (.tmp 57) vG xj nW ?_))
    have hrun:=fo (bz.row CC) 43 _ iP rfl vG;refine UI ?_;refine⟨⟨t0.line,t0.ak,ib.1,ib.2,nm,l⟩,CC,rfl,⟨.slice av l.length cv,by rw[eB.o],Ok.o.dn ah Oj.o (fun b _ hne=>gK _ _ _ _ hne)⟩,Oi.o.row _ af CC,?_,fun dp=>?_⟩
    ·exact UQ
    ·have ht:=np.o (yR.o dp);exact Uv
   | ok ts=>
    have ia:=iF.o;obtain⟨j,hj,rfl,gS⟩:=ia;obtain⟨jk,hf2⟩:=gP.o _ rfl;have gA:=fk _ rfl;obtain⟨g,rfl⟩:∃ g,EK = g+1:=⟨EK - 1,ae⟩
    have lh:=hT.b.drop hj;refine wV gS.cells ?_;intro vj oT f2;have cs:=nw T bm hlen j 0 0 0 kr wr (gV hj) gS;rw[pQ hj]at cs;unfold eG bZ at cs;have C8:=Qh gS;clear gS oT;by_cases hk2:(ax (T.drop j)).kind=2
    ·have sj:=Qh hk2;rw[hk2]at cs;clear hk2;go_wp2_with fail;refine aQ cs ?_;intro w2 hb;refine lC (fM.o.trans (aA.of_below kr hb)) (C8.o.keep hb) (bF oI.o hb) (bF k9.o hb) ?_;intro aU gi bo bC;have To:=Qh (rJ.o.keep hb af);have c5:=ai.cell ⟨_,bo.o⟩ 5 (.slice av l.length cv) rfl;have cg:=asf l.length T hT j hj sj.o kr w2 gi.o;have sN:=Qh (fun x hx=>asp (f:=g) (l:=l) kV KF sj.o x hx);obtain⟨q,hq⟩:∃ q,q=(aF.ok (T.drop j)).run (0,[]) (qh l.length):=⟨_,rfl⟩
     have sU:=Qh (show ∀ ts,q.2=.ok ts→ts.length < (T.drop j).length by
      intro ts e;rw[hq]at e;obtain⟨xx,h2⟩:=EH e;exact asq h2 lh sj.o)
     have hgo:=sN.o;rw[← hq]at cg hgo;have sN:=Qh hgo;clear cs hb Cr f2 hq hgo;go_wp2_with fail;refine aI cg ?_;rintro e W4 ⟨z,tx,rfl,ho,hp,yS⟩;have ny:=Qh (aU.o.trans ho);have zl:=Qh hp;have wY:=Qh (eJ bo.o ae ho);refine aY (eJ bC.o ae ho) (aG.only To.o dG ho) yS ?_;intro pM H6 CE;have hb5:Below W4.heap.size W4 (W4.alloc (.cells #[.int .i64 z,.string ⟨tx.toArray⟩] 45)):=(aC _ _).alloc af _;have jm:=ai.new W4 #[.int .i64 z,.string ⟨tx.toArray⟩] 45;have iV:=Qh (ny.o.trans (aA.of_below kr hb5));clear cg ho hp yS c5;refine fx (zl.o.keep hb5) (bF wY.o hb5) (bF pM.o hb5) (H6.o.keep hb5 af) ?_;clear hb5;intro pF fF vu CG;go_upto_region 9 with (refine eX (Z:=#[.int .i64 0,.string ⟨#[]⟩]) (cs:=#[.int .i64 z,.string ⟨tx.toArray⟩]) 45 (.tmp 5) (.tmp 48) aso rfl uz ?_)
     generalize W4.alloc (.cells #[.int .i64 z,.string ⟨tx.toArray⟩] 45)=W5 at *;generalize W4.heap.size=k5 at *;have c55:=ai.cell ⟨_,fF.o⟩ 5 (.slice av l.length cv) rfl;have yT:=underlying45;have hs5:w.heap.size≤W5.heap.size:=iV.o.size;go_wp2_with (first|(refine fG jm 45 (.tmp 5) yT Xk ?_)|(at_builtin;go_loud (refine iL LX l (z,tx) CG.o (aC w.heap.size W5) hs5 ae ?_ (hone:=PZ))))
     rintro v6 W6 kA bR gL -;refine AV ?_;intro a6 n6 c6 qy
     subst qy;have eU:=Qh (jQ fF.o CG.o ah gL);refine fQ (jQ vu.o CG.o ah gL) (aA.low iV.o bR) (bD.low pF.o dG bR) (ai.cell ⟨_,eU.o⟩ 5 (.slice av l.length cv) rfl) ?_;intro ve gJ jE ahR;have Xw:=ai.free ⟨_,eU.o⟩ 5;have D5:=Qh (bJ eU.o 5 (.slice a6 n6 c6));refine aY (dH ve.o (show w.heap.size≠ks by omega) 5 (.slice a6 n6 c6)) (aA.new gJ.o ks cz 5 (.slice a6 n6 c6)) (bD.set jE.o dL 5 (.slice a6 n6 c6)) ?_;intro Od Oe Og;have Oh:=Qh (kA.dn ah eU.o (fun b _ hne=>dN _ ⟨ks,5,none⟩ (.slice a6 n6 c6) b hne));clear kA bR gL jm;go_wp2_with fail;go_roundw;case rel=>exact⟨k+1,g,l++[(z,tx)],_,q.2,bL,ae,sT,(fun ts e=>Ic),by rw[dY.o];exact sN.o (z,tx) CE.o,Og.o,Oe.o,D5.o,Od.o,Oh.o⟩
     case measure=>exact bY
    ·have hst:∀ ts,aF.ok (T.drop j)=.ok ts→(ax ts).kind≠2:=fun ts e=>by cases e;exact hk2
     have e2:=bN hk2;have ass:=Qh hst;clear hst;generalize (ax (T.drop j)).kind=K at *;go_wp2_with fail;refine aQ cs ?_;intro w2 hb;have sP:=Qh (fM.o.trans (aA.of_below kr hb));have vg:=Qh (iF.o.keep hb);refine fQ (bF oI.o hb) (bF k9.o hb) (rJ.o.keep hb af) ass.o ?_;intro wP rK wQ hst;clear cs hb f2 Cr;have HV:=Qh (show R=(aF.ok (T.drop j)).run kV (KF l)by
      rw[dY.o];exact aai kV KF (fun ts e=>bQ (fk ts e) (gP.o ts e).1) hst)
     clear fk;have hv:=HV.o;rw[jh.o]at hv;dsimp only at hv;rw[run_bind (aF.ok (T.drop j)) eL kV (cj [59])]at hv;have cM:=pI 4 [59] ⟨59,[],rfl,.inr ⟨rfl,ah⟩⟩ T hT (aF.ok (T.drop j)) kr _ vg.o;obtain⟨s9,Fa⟩:∃ s,s=((aF.ok (T.drop j)).run eL (cj [59])).2:=⟨_,rfl⟩
     refine US ?_;clear Fa;intro cM HV;go_wp2_with fail;refine aI cM ?_;clear cM;refine TV underlying43 ?_;intro w9 Oi UR HCY Oj Ok CC eB oW nW lU bz iP
     go_wp2_with (first|(refine fG lU 43 (.tmp 3) iP vG ?_)|(refine iC (cs:=CC) bz 43 (.tmp 2) (.tmp 57) vG xj nW ?_))
     have hrun:=fo (bz.row CC) 43 _ iP rfl vG;refine UI ?_;refine⟨⟨t0.line,t0.ak,ib.1,ib.2,nm,l⟩,CC,rfl,⟨.slice av l.length cv,by rw[eB.o],Ok.o.dn ah Oj.o (fun b _ hne=>gK _ _ _ _ hne)⟩,Oi.o.row _ af CC,?_,fun dp=>?_⟩
     ·exact UQ
     ·have ht:=np.o (yR.o dp);exact Uv
  ·have hst:∀ ts,s1=.ok ts→(ax ts).kind≠2:=fun ts e=>by
    have h1:=(gP.o ts e).2;have h2:=fk ts e;omega
   have sP:=fM;have vg:=iF;have wP:=oI;have rK:=k9;have wQ:=rJ;have HV:=Qh (show R=s1.run kV (KF l)by
    rw[dY.o];exact aai kV KF (fun ts e=>bQ (fk ts e) (gP.o ts e).1) hst)
   clear fk;have hv:=HV.o;rw[jh.o]at hv;dsimp only at hv;rw[run_bind s1 eL kV (cj [59])]at hv;have cM:=pI 4 [59] ⟨59,[],rfl,.inr ⟨rfl,ah⟩⟩ T hT s1 kr _ vg.o;obtain⟨s9,Fa⟩:∃ s,s=(s1.run eL (cj [59])).2:=⟨_,rfl⟩
   refine US ?_;clear Fa;intro cM HV;go_wp2_with fail;refine aI cM ?_;clear cM;refine TV underlying43 ?_;intro w9 Oi UR HCY Oj Ok CC eB oW nW lU bz iP
   go_wp2_with (first|(refine fG lU 43 (.tmp 3) iP vG ?_)|(refine iC (cs:=CC) bz 43 (.tmp 2) (.tmp 57) vG xj nW ?_))
   have hrun:=fo (bz.row CC) 43 _ iP rfl vG;refine UI ?_;refine⟨⟨t0.line,t0.ak,ib.1,ib.2,nm,l⟩,CC,rfl,⟨.slice av l.length cv,by rw[eB.o],Ok.o.dn ah Oj.o (fun b _ hne=>gK _ _ _ _ hne)⟩,Oi.o.row _ af CC,?_,fun dp=>?_⟩
   ·exact UQ
   ·have ht:=np.o (yR.o dp);exact Uv
end Go.Proofs.YtfflljgnpfldfaaGreatDoor
