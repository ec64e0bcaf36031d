/-
  The reference's reader: the signal: contract. (Printed by gen_redi.py.)
-/
import Derived.Test.YtfflljgnpfldfaaGreatDoorRedH
set_option linter.all false
set_option maxHeartbeats 128000000
set_option maxRecDepth 100000
namespace Go.Proofs.YtfflljgnpfldfaaGreatDoor
open Go.Proofs.Tryz
open Go.RowKit
def kX:et:=⟨⟨0,0,[],0,0,0,0,false,false,0,0,0,0,0,0,0,0,[]⟩,[]⟩
theorem aae (st:aF) (b:Nat) (hb:0 < b):(st.run 0 (gQ b)).1 < b:=by
 cases st with
 | bad n l c=>exact hb
 | ok ts=>
  refine nD ?_;cases hw:gQ b ts with
  | ok n t=>exact Sz hw
  | bad n l c=>exact hb
theorem aaf (T:List aw) (hT:mD T) (st:aF) (kr:Nat) (w:World) (h:bD w kr T st) :
  Calls prog 107 #[.pointer (some ⟨kr,0,none⟩),.int .u64 2147483648] w fun e w'=>wM kr w T (.int .u64 ((st.run 0 (gQ 2147483648)).1:Nat)) (st.run 0 (gQ 2147483648)).2 e w':=ahG 2147483648 ah T hT st kr w h
theorem Tm (st:aF) (text:List UInt8) (i:Nat) (T:List aw) (h:∀ ts,st=.ok ts→ax ts=rI T i):(st.run eL (cj text)).2.isOk→(st.run eL (cj text)).1=rI T i:=by
 cases st with
 | bad n l c=>exact fun h=>h.elim
 | ok ts=>
  rw[← h ts rfl];cases hS:dt text ts with
  | true=>
   have e:(aF.ok ts).run eL (cj text)=(ax ts,.ok ts.tail):=by
    unfold aF.run cj;simp only;rw[if_pos hS]
   rw[e];exact fun _=>rfl
  | false=>
   have e:(aF.ok ts).run eL (cj text)=(eL,(aF.ok ts).form):=by
    unfold aF.run cj;simp only;rw[if_neg (by rw[hS];decide)];rfl
   rw[e];exact fun h=>(show False from h).elim
theorem wW {α:Type} (st:aF) (d x:α):(st.run d (fun ts=>PR.ok x ts)).2=st∧(st.isOk→(st.run d (fun ts=>PR.ok x ts)).1=x):=by
 cases st with
 | ok ts=>exact⟨rfl,fun _=>rfl⟩
 | bad n l c=>exact⟨rfl,fun h=>h.elim⟩
theorem ahL {β:Type} {st:aF} {f:Nat} {l:List (List UInt8)} (d:β) (KF:List (List UInt8)→List aw→PR β) (hf:∀ ts,st=.ok ts→1≤f) (h:∀ ts,st=.ok ts→dt [44] ts=false):st.run d (fun ts=>(lO f l ts).bind KF)=st.run d (KF l):=by
 cases st with
 | bad n l c=>rfl
 | ok ts=>
  obtain⟨f',rfl⟩:∃ f',f=f' + 1:=⟨f - 1,Io⟩
  refine nD ?_;rw[show lO (f' + 1) l ts=.ok l ts by unfold lO;rw[if_neg LD]];rfl
theorem asi {β:Type} {ts:List aw} {f:Nat} {l:List (List UInt8)} (d:β) (KF:List (List UInt8)→List aw→PR β) (h:dt [44] ts=true):(aF.ok ts).run d (fun ts=>(lO (f+1) l ts).bind KF)=((aF.ok ts.tail).run [] ee).2.run d (fun tz=>(lO f (l++[((aF.ok ts.tail).run [] ee).1]) tz).bind KF):=by
 have ht:lO (f+1) l ts=(ee ts.tail).bind fun nm aJ=>lO f (l++[nm]) aJ:=by
  conv=>lhs;unfold lO
  rw[if_pos h]
 cases hn:ee ts.tail with
 | ok x t=>
  have e:(aF.ok ts.tail).run [] ee=(x,.ok t):=by
   refine nD ?_;rw[hn]
  rw[e];exact H9
 | bad a b c=>
  have e:(aF.ok ts.tail).run [] ee=([],.bad a b c):=by
   refine nD ?_;rw[hn]
  rw[e];exact H9
theorem bD.head {w:World} {kr:Nat} {T:List aw} {st:aF} (h:bD w kr T st):∃ (i:Nat) (no l c:Int),i≤T.length∧eV w kr T i no l c∧∀ ts,st=.ok ts→ax ts=rI T i:=by
 cases st with
 | ok ts=>
  obtain⟨i,hi,rfl,hr⟩:=h;exact⟨i,0,0,0,gV hi,hr,fun ts e=>by cases e;exact(pQ hi).symm⟩
 | bad n l c=>
  obtain⟨h0,i,hi,hr⟩:=h;exact⟨i,n,l,c,hi,hr,fun ts e=>sW⟩
def aag (kr:Nat) (w:World) (T:List aw) (R:et×aF) (e:Ending) (w':World):Prop:=
 ∃ (x:et) (C:Array Value),e=.returned (.agg C)∧mW w.heap.size w' x C.toList∧aA kr w w'∧bD w' kr T R.2∧(R.2.isOk→R.1=x)
theorem ahM (T:List aw) (hT:mD T) (st:aF) (kr:Nat) (w:World) (h:bD w kr T st) :
  Calls prog 108 #[.pointer (some ⟨kr,0,none⟩)] w fun e w'=>aag kr w T (st.run kX nc) e w':=by
 have bm:=hT.b.1.pos;have hlen:=hT.b.2.2;obtain⟨R,hR⟩:∃ R,R=st.run kX nc:=⟨_,rfl⟩
 rw[← hR];unfold nc at hR;have HR:=Qh hR;clear hR;have dG:=h.lt;have hb0:Below w.heap.size w (w.alloc (.cells kL 63)):=(aC _ _).alloc af _;refine fQ (aA.of_below kr hb0) (h.keep hb0) (dK w (.cells kL 63)) yF ?_;intro HO HP HZ hf2;obtain⟨i,no,l0,c0,hi,ud,sM⟩:=HP.o.head;have yC:=Qh sM;have cn:=nw T bm hlen i no l0 c0 kr _ hi ud;unfold eG bZ at cn;have np:=Qh (Tm st [83,71,95] i T sM);generalize rI T i=t0 at *;clear hb0 h ud sM;go_enter func108,ntmps108
 go_wp2_with fail;refine aQ cn ?_;intro W1 hb;refine aY (bF HZ.o hb) (HO.o.trans (aA.of_below kr hb)) (HP.o.keep hb) ?_;intro HZ HO HP;clear cn hb;obtain⟨C0,jJ⟩:∃ C,C=(⟨t0.line,t0.ak,[],0,0,0,0,false,false,0,0,0,0,0,0,0,0,[]⟩:dI).cells (.slice none 0 0):=⟨_,rfl⟩
 have oX:=Qh jJ;have sX:C0.size=19:=Fk;have uY:C0.all (·.oneCell')=true:=(by rw[jJ];exact dI.cells_one _ _ _ _);clear jJ;go_upto_region 2 with (refine eX (Z:=kL) (cs:=C0) 63 (.tmp 3) (.tmp 8) (by rw[sX];exact Jc) Fl uY ?_ (hy:=Fj))
 have cH:Below W1.heap.size W1 (W1.alloc (.cells C0 63)):=(aC _ _).alloc af _;refine Lb ?_;intro Kn cz
 have dL:kr < W1.heap.size:=ae;have HC:=Qh (show(W1.alloc (.cells C0 63)).heap[W1.heap.size]? = some (.cells ((⟨t0.line,t0.ak,[],0,0,0,0,false,false,0,0,0,0,0,0,0,0,[]⟩:dI).cells (.slice none 0 0)) 63)by rw[← oX.o];exact dK W1 _);refine aY (bF HZ.o cH) (HO.o.trans (aA.of_below kr cH)) (HP.o.keep cH) ?_;intro HZ HO HP;clear cH;generalize ij:W1.heap.size=ks at *;generalize W1.alloc (.cells C0 63)=W2 at *;have cc:=pI 1 [83,71,95] ⟨_,_,rfl,.inl ⟨rfl,ah⟩⟩ T hT st kr _ HP.o;have AZ:=np.o;refine Ux (iA eL HR.o) ?_;intro t s1 np yR cc HR
 go_wp2_with fail;refine aI cc ?_;clear cc;refine jd ?_;intro W3 HZ HC HO HP;refine mM (Hf T hT s1 kr _ HP.o) (iA [] HR.o) ?_;intro nm s2 cc HR
 go_wp2_with fail;refine aI cc ?_;clear cc;refine jd ?_;intro W4 HZ HC HO HP;have c2:=ai.cell ⟨_,HC.o⟩ 2 (.string ⟨#[]⟩) rfl;have r2:=ai.free ⟨_,HC.o⟩ 2;have bo:=Qh (show(W4.setCell ⟨ks,2,none⟩ (.string ⟨nm.toArray⟩)).heap[ks]? = some (.cells ((⟨t0.line,t0.ak,nm,0,0,0,0,false,false,0,0,0,0,0,0,0,0,[]⟩:dI).cells (.slice none 0 0)) 63)from (bJ HC.o 2 (.string ⟨nm.toArray⟩)));have aU:=Qh (aA.new HO.o ks cz 2 (.string ⟨nm.toArray⟩));have bC:=Qh (dH HZ.o (show w.heap.size≠ks by omega) 2 (.string ⟨nm.toArray⟩));have bw:=Qh (bD.set HP.o dL 2 (.string ⟨nm.toArray⟩));go_upto_region 4 with fail
 clear c2 r2;have HC:=bo;have HO:=aU;have HZ:=bC;have HP:=bw;clear bo aU bC bw;generalize (W4.setCell ⟨ks,2,none⟩ (.string ⟨nm.toArray⟩))=W5 at *;refine mM (ar6 T hT s2 kr _ HP.o) (iA (0,0) HR.o) ?_;intro rb s3 cc HR
 go_wp2_with fail;refine aI cc ?_;clear cc;refine jd ?_;intro W6 HZ HC HO HP;have c3:=ai.cell ⟨_,HC.o⟩ 3 (.int .i64 0) rfl;have r3:=ai.free ⟨_,HC.o⟩ 3;have c4:=ai.cell ⟨_,HC.o⟩ 4 (.int .u64 0) rfl;have r4:=ai.free ⟨_,HC.o⟩ 4;have avE:∀ v,(W6.setCell ⟨ks,3,none⟩ v).cell? ⟨ks,4,none⟩=some (.int .u64 0):=fun v=>ai.cell ⟨_,bJ HC.o 3 v⟩ 4 _ rfl
 have avF:∀ v,(W6.setCell ⟨ks,3,none⟩ v).frozen? ⟨ks,4,none⟩=false:=fun v=>ai.free ⟨_,bJ HC.o 3 v⟩ 4
 have bo:=Qh (show((W6.setCell ⟨ks,3,none⟩ (.int .i64 rb.1)).setCell ⟨ks,4,none⟩ (.int .u64 (rb.2:Nat))).heap[ks]? = some (.cells ((⟨t0.line,t0.ak,nm,rb.1,rb.2,0,0,false,false,0,0,0,0,0,0,0,0,[]⟩:dI).cells (.slice none 0 0)) 63)from (bJ (bJ HC.o 3 (.int .i64 rb.1)) 4 (.int .u64 (rb.2:Nat))));have aU:=Qh (aA.new (aA.new HO.o ks cz 3 (.int .i64 rb.1)) ks cz 4 (.int .u64 (rb.2:Nat)));have bC:=Qh (dH (dH HZ.o (show w.heap.size≠ks by omega) 3 (.int .i64 rb.1)) (show w.heap.size≠ks by omega) 4 (.int .u64 (rb.2:Nat)));have bw:=Qh (bD.set (bD.set HP.o dL 3 (.int .i64 rb.1)) dL 4 (.int .u64 (rb.2:Nat)));go_upto_region 5 with fail
 clear c3 r3 c4 r4;have HC:=bo;have HO:=aU;have HZ:=bC;have HP:=bw;clear bo aU bC bw;generalize ((W6.setCell ⟨ks,3,none⟩ (.int .i64 rb.1)).setCell ⟨ks,4,none⟩ (.int .u64 (rb.2:Nat)))=W7 at *;refine mM (pI 4 [58] ⟨_,[],rfl,.inr ⟨rfl,ah⟩⟩ T hT s3 kr _ HP.o) (iA eL HR.o) ?_;intro k1 s4 cc HR
 go_wp2_with fail;refine aI cc ?_;clear cc;refine jd ?_;intro W8 HZ HC HO HP;have cc:=aaf T hT s4 kr _ HP.o;obtain⟨sa,s5,hx,hs,hr⟩:=iA 0 HR.o;have hlt:=aae s4 2147483648 ah;rw[← hx]at hlt;rw[← hs]at cc;try rw[← hx]at cc
 have HR:=Qh hr;clear hr hx hs;go_wp2_with fail;refine aI cc ?_;clear cc;refine jd ?_;intro W9 HZ HC HO HP;have c5:=ai.cell ⟨_,HC.o⟩ 5 (.int .i64 0) rfl;have r5:=ai.free ⟨_,HC.o⟩ 5;have bo:=Qh (show(W9.setCell ⟨ks,5,none⟩ (.int .i64 (sa:Nat))).heap[ks]? = some (.cells ((⟨t0.line,t0.ak,nm,rb.1,rb.2,sa,0,false,false,0,0,0,0,0,0,0,0,[]⟩:dI).cells (.slice none 0 0)) 63)from (bJ HC.o 5 (.int .i64 (sa:Nat))));have aU:=Qh (aA.new HO.o ks cz 5 (.int .i64 (sa:Nat)));have bC:=Qh (dH HZ.o (show w.heap.size≠ks by omega) 5 (.int .i64 (sa:Nat)));have bw:=Qh (bD.set HP.o dL 5 (.int .i64 (sa:Nat)));go_upto_region 7 with fail
 clear c5 r5;have HC:=bo;have HO:=aU;have HZ:=bC;have HP:=bw;clear bo aU bC bw;generalize (W9.setCell ⟨ks,5,none⟩ (.int .i64 (sa:Nat)))=NG at *;refine mM (pI 4 [124] ⟨_,[],rfl,.inr ⟨rfl,ah⟩⟩ T hT s5 kr _ HP.o) (iA eL HR.o) ?_;intro k2 s6 cc HR
 go_wp2_with fail;refine aI cc ?_;clear cc;refine jd ?_;intro NH HZ HC HO HP;have cc:=aaf T hT s6 kr _ HP.o;obtain⟨sz,s7,hx,hs,hr⟩:=iA 0 HR.o;have hlt2:=aae s6 2147483648 ah;rw[← hx]at hlt2;rw[← hs]at cc;try rw[← hx]at cc
 have HR:=Qh hr;clear hr hx hs;go_wp2_with fail;refine aI cc ?_;clear cc;refine jd ?_;intro NI HZ HC HO HP;have c6:=ai.cell ⟨_,HC.o⟩ 6 (.int .i64 0) rfl;have r6:=ai.free ⟨_,HC.o⟩ 6;have bo:=Qh (show(NI.setCell ⟨ks,6,none⟩ (.int .i64 (sz:Nat))).heap[ks]? = some (.cells ((⟨t0.line,t0.ak,nm,rb.1,rb.2,sa,sz,false,false,0,0,0,0,0,0,0,0,[]⟩:dI).cells (.slice none 0 0)) 63)from (bJ HC.o 6 (.int .i64 (sz:Nat))));have aU:=Qh (aA.new HO.o ks cz 6 (.int .i64 (sz:Nat)));have bC:=Qh (dH HZ.o (show w.heap.size≠ks by omega) 6 (.int .i64 (sz:Nat)));have bw:=Qh (bD.set HP.o dL 6 (.int .i64 (sz:Nat)));go_upto_region 9 with fail
 clear c6 r6;have HC:=bo;have HO:=aU;have HZ:=bC;have HP:=bw;clear bo aU bC bw;generalize (NI.setCell ⟨ks,6,none⟩ (.int .i64 (sz:Nat)))=AD at *;refine mM (ar7 T hT s7 kr _ HP.o) (iA [] HR.o) ?_;intro od s8 cc HR
 go_wp2_with fail;refine aI cc ?_;clear cc;refine jd ?_;intro NJ HZ HC HO HP;generalize LM:(od[1]? == some 48)=M1 at *;generalize LN:(od[2]? == some 45)=M2 at *;have N9:=Qh LM;have Oa:=Qh LN;clear LM LN;have c7:=ai.cell ⟨_,HC.o⟩ 7 (.bool false) rfl;have r7:=ai.free ⟨_,HC.o⟩ 7;have c8:=ai.cell ⟨_,HC.o⟩ 8 (.bool false) rfl;have r8:=ai.free ⟨_,HC.o⟩ 8;have avG:∀ v,(NJ.setCell ⟨ks,7,none⟩ v).cell? ⟨ks,8,none⟩=some (.bool false):=fun v=>ai.cell ⟨_,bJ HC.o 7 v⟩ 8 _ rfl
 have avH:∀ v,(NJ.setCell ⟨ks,7,none⟩ v).frozen? ⟨ks,8,none⟩=false:=fun v=>ai.free ⟨_,bJ HC.o 7 v⟩ 8
 have bo:=Qh (show((NJ.setCell ⟨ks,7,none⟩ (.bool M1)).setCell ⟨ks,8,none⟩ (.bool M2)).heap[ks]? = some (.cells ((⟨t0.line,t0.ak,nm,rb.1,rb.2,sa,sz,M1,M2,0,0,0,0,0,0,0,0,[]⟩:dI).cells (.slice none 0 0)) 63)from (bJ (bJ HC.o 7 (.bool M1)) 8 (.bool M2)));have aU:=Qh (aA.new (aA.new HO.o ks cz 7 (.bool M1)) ks cz 8 (.bool M2));have bC:=Qh (dH (dH HZ.o (show w.heap.size≠ks by omega) 7 (.bool M1)) (show w.heap.size≠ks by omega) 8 (.bool M2));have bw:=Qh (bD.set (bD.set HP.o dL 7 (.bool M1)) dL 8 (.bool M2));go_upto_region 10 with fail
 clear c7 r7 c8 r8;have HC:=bo;have HO:=aU;have HZ:=bC;have HP:=bw;clear bo aU bC bw;generalize ((NJ.setCell ⟨ks,7,none⟩ (.bool M1)).setCell ⟨ks,8,none⟩ (.bool M2))=W15 at *;refine mM (pI 4 [40] ⟨_,[],rfl,.inr ⟨rfl,ah⟩⟩ T hT s8 kr _ HP.o) (iA eL HR.o) ?_;intro k3 s9 cc HR
 go_wp2_with fail;refine aI cc ?_;clear cc;refine jd ?_;intro YV HZ HC HO HP;refine mM (Tj T hT s9 kr _ HP.o) (iA (0,0) HR.o) ?_;intro sc s10 cc HR
 go_wp2_with fail;refine aI cc ?_;clear cc;refine jd ?_;intro NK HZ HC HO HP;have c9:=ai.cell ⟨_,HC.o⟩ 9 (.int .i64 0) rfl;have r9:=ai.free ⟨_,HC.o⟩ 9;have c10:=ai.cell ⟨_,HC.o⟩ 10 (.int .i64 0) rfl;have YW:=ai.free ⟨_,HC.o⟩ 10;have avI:∀ v,(NK.setCell ⟨ks,9,none⟩ v).cell? ⟨ks,10,none⟩=some (.int .i64 0):=fun v=>ai.cell ⟨_,bJ HC.o 9 v⟩ 10 _ rfl
 have avJ:∀ v,(NK.setCell ⟨ks,9,none⟩ v).frozen? ⟨ks,10,none⟩=false:=fun v=>ai.free ⟨_,bJ HC.o 9 v⟩ 10
 have bo:=Qh (show((NK.setCell ⟨ks,9,none⟩ (.int .i64 sc.1)).setCell ⟨ks,10,none⟩ (.int .i64 sc.2)).heap[ks]? = some (.cells ((⟨t0.line,t0.ak,nm,rb.1,rb.2,sa,sz,M1,M2,sc.1,sc.2,0,0,0,0,0,0,[]⟩:dI).cells (.slice none 0 0)) 63)from (bJ (bJ HC.o 9 (.int .i64 sc.1)) 10 (.int .i64 sc.2)));have aU:=Qh (aA.new (aA.new HO.o ks cz 9 (.int .i64 sc.1)) ks cz 10 (.int .i64 sc.2));have bC:=Qh (dH (dH HZ.o (show w.heap.size≠ks by omega) 9 (.int .i64 sc.1)) (show w.heap.size≠ks by omega) 10 (.int .i64 sc.2));have bw:=Qh (bD.set (bD.set HP.o dL 9 (.int .i64 sc.1)) dL 10 (.int .i64 sc.2));go_upto_region 12 with fail
 clear c9 r9 c10 YW;have HC:=bo;have HO:=aU;have HZ:=bC;have HP:=bw;clear bo aU bC bw;generalize ((NK.setCell ⟨ks,9,none⟩ (.int .i64 sc.1)).setCell ⟨ks,10,none⟩ (.int .i64 sc.2))=W18 at *;refine mM (pI 4 [44] ⟨_,[],rfl,.inr ⟨rfl,ah⟩⟩ T hT s10 kr _ HP.o) (iA eL HR.o) ?_;intro k4 s11 cc HR
 go_wp2_with fail;refine aI cc ?_;clear cc;refine jd ?_;intro YZ HZ HC HO HP;refine mM (Tj T hT s11 kr _ HP.o) (iA (0,0) HR.o) ?_;intro dO s12 cc HR
 go_wp2_with fail;refine aI cc ?_;clear cc;refine jd ?_;intro NL HZ HC HO HP;have c11:=ai.cell ⟨_,HC.o⟩ 11 (.int .i64 0) rfl;have Y3:=ai.free ⟨_,HC.o⟩ 11;have c12:=ai.cell ⟨_,HC.o⟩ 12 (.int .i64 0) rfl;have Y4:=ai.free ⟨_,HC.o⟩ 12;have avK:∀ v,(NL.setCell ⟨ks,11,none⟩ v).cell? ⟨ks,12,none⟩=some (.int .i64 0):=fun v=>ai.cell ⟨_,bJ HC.o 11 v⟩ 12 _ rfl
 have avL:∀ v,(NL.setCell ⟨ks,11,none⟩ v).frozen? ⟨ks,12,none⟩=false:=fun v=>ai.free ⟨_,bJ HC.o 11 v⟩ 12
 have bo:=Qh (show((NL.setCell ⟨ks,11,none⟩ (.int .i64 dO.1)).setCell ⟨ks,12,none⟩ (.int .i64 dO.2)).heap[ks]? = some (.cells ((⟨t0.line,t0.ak,nm,rb.1,rb.2,sa,sz,M1,M2,sc.1,sc.2,dO.1,dO.2,0,0,0,0,[]⟩:dI).cells (.slice none 0 0)) 63)from (bJ (bJ HC.o 11 (.int .i64 dO.1)) 12 (.int .i64 dO.2)));have aU:=Qh (aA.new (aA.new HO.o ks cz 11 (.int .i64 dO.1)) ks cz 12 (.int .i64 dO.2));have bC:=Qh (dH (dH HZ.o (show w.heap.size≠ks by omega) 11 (.int .i64 dO.1)) (show w.heap.size≠ks by omega) 12 (.int .i64 dO.2));have bw:=Qh (bD.set (bD.set HP.o dL 11 (.int .i64 dO.1)) dL 12 (.int .i64 dO.2));go_upto_region 14 with fail
 clear c11 Y3 c12 Y4;have HC:=bo;have HO:=aU;have HZ:=bC;have HP:=bw;clear bo aU bC bw;generalize ((NL.setCell ⟨ks,11,none⟩ (.int .i64 dO.1)).setCell ⟨ks,12,none⟩ (.int .i64 dO.2))=W21 at *;refine mM (pI 4 [41] ⟨_,[],rfl,.inr ⟨rfl,ah⟩⟩ T hT s12 kr _ HP.o) (iA eL HR.o) ?_;intro k5 s13 cc HR
 go_wp2_with fail;refine aI cc ?_;clear cc;refine jd ?_;intro W22 HZ HC HO HP;refine mM (pI 4 [91] ⟨_,[],rfl,.inr ⟨rfl,ah⟩⟩ T hT s13 kr _ HP.o) (iA eL HR.o) ?_;intro k6 s14 cc HR
 go_wp2_with fail;refine aI cc ?_;clear cc;refine jd ?_;intro Zc HZ HC HO HP;refine mM (Tj T hT s14 kr _ HP.o) (iA (0,0) HR.o) ?_;intro mi s15 cc HR
 go_wp2_with fail;refine aI cc ?_;clear cc;refine jd ?_;intro NM HZ HC HO HP;have c13:=ai.cell ⟨_,HC.o⟩ 13 (.int .i64 0) rfl;have Zd:=ai.free ⟨_,HC.o⟩ 13;have c14:=ai.cell ⟨_,HC.o⟩ 14 (.int .i64 0) rfl;have Ze:=ai.free ⟨_,HC.o⟩ 14;have avM:∀ v,(NM.setCell ⟨ks,13,none⟩ v).cell? ⟨ks,14,none⟩=some (.int .i64 0):=fun v=>ai.cell ⟨_,bJ HC.o 13 v⟩ 14 _ rfl
 have avN:∀ v,(NM.setCell ⟨ks,13,none⟩ v).frozen? ⟨ks,14,none⟩=false:=fun v=>ai.free ⟨_,bJ HC.o 13 v⟩ 14
 have bo:=Qh (show((NM.setCell ⟨ks,13,none⟩ (.int .i64 mi.1)).setCell ⟨ks,14,none⟩ (.int .i64 mi.2)).heap[ks]? = some (.cells ((⟨t0.line,t0.ak,nm,rb.1,rb.2,sa,sz,M1,M2,sc.1,sc.2,dO.1,dO.2,mi.1,mi.2,0,0,[]⟩:dI).cells (.slice none 0 0)) 63)from (bJ (bJ HC.o 13 (.int .i64 mi.1)) 14 (.int .i64 mi.2)));have aU:=Qh (aA.new (aA.new HO.o ks cz 13 (.int .i64 mi.1)) ks cz 14 (.int .i64 mi.2));have bC:=Qh (dH (dH HZ.o (show w.heap.size≠ks by omega) 13 (.int .i64 mi.1)) (show w.heap.size≠ks by omega) 14 (.int .i64 mi.2));have bw:=Qh (bD.set (bD.set HP.o dL 13 (.int .i64 mi.1)) dL 14 (.int .i64 mi.2));go_upto_region 17 with fail
 clear c13 Zd c14 Ze;have HC:=bo;have HO:=aU;have HZ:=bC;have HP:=bw;clear bo aU bC bw;generalize ((NM.setCell ⟨ks,13,none⟩ (.int .i64 mi.1)).setCell ⟨ks,14,none⟩ (.int .i64 mi.2))=W25 at *;refine mM (pI 4 [124] ⟨_,[],rfl,.inr ⟨rfl,ah⟩⟩ T hT s15 kr _ HP.o) (iA eL HR.o) ?_;intro k7 s16 cc HR
 go_wp2_with fail;refine aI cc ?_;clear cc;refine jd ?_;intro Zh HZ HC HO HP;refine mM (Tj T hT s16 kr _ HP.o) (iA (0,0) HR.o) ?_;intro ma s17 cc HR
 go_wp2_with fail;refine aI cc ?_;clear cc;refine jd ?_;intro NP HZ HC HO HP;have c15:=ai.cell ⟨_,HC.o⟩ 15 (.int .i64 0) rfl;have Zi:=ai.free ⟨_,HC.o⟩ 15;have c16:=ai.cell ⟨_,HC.o⟩ 16 (.int .i64 0) rfl;have r16:=ai.free ⟨_,HC.o⟩ 16;have avO:∀ v,(NP.setCell ⟨ks,15,none⟩ v).cell? ⟨ks,16,none⟩=some (.int .i64 0):=fun v=>ai.cell ⟨_,bJ HC.o 15 v⟩ 16 _ rfl
 have avP:∀ v,(NP.setCell ⟨ks,15,none⟩ v).frozen? ⟨ks,16,none⟩=false:=fun v=>ai.free ⟨_,bJ HC.o 15 v⟩ 16
 have bo:=Qh (show((NP.setCell ⟨ks,15,none⟩ (.int .i64 ma.1)).setCell ⟨ks,16,none⟩ (.int .i64 ma.2)).heap[ks]? = some (.cells ((⟨t0.line,t0.ak,nm,rb.1,rb.2,sa,sz,M1,M2,sc.1,sc.2,dO.1,dO.2,mi.1,mi.2,ma.1,ma.2,[]⟩:dI).cells (.slice none 0 0)) 63)from (bJ (bJ HC.o 15 (.int .i64 ma.1)) 16 (.int .i64 ma.2)));have aU:=Qh (aA.new (aA.new HO.o ks cz 15 (.int .i64 ma.1)) ks cz 16 (.int .i64 ma.2));have bC:=Qh (dH (dH HZ.o (show w.heap.size≠ks by omega) 15 (.int .i64 ma.1)) (show w.heap.size≠ks by omega) 16 (.int .i64 ma.2));have bw:=Qh (bD.set (bD.set HP.o dL 15 (.int .i64 ma.1)) dL 16 (.int .i64 ma.2));go_upto_region 19 with fail
 clear c15 Zi c16 r16;have HC:=bo;have HO:=aU;have HZ:=bC;have HP:=bw;clear bo aU bC bw;generalize ((NP.setCell ⟨ks,15,none⟩ (.int .i64 ma.1)).setCell ⟨ks,16,none⟩ (.int .i64 ma.2))=W28 at *;refine mM (pI 4 [93] ⟨_,[],rfl,.inr ⟨rfl,ah⟩⟩ T hT s17 kr _ HP.o) (iA eL HR.o) ?_;intro k8 Hg cc HR
 go_wp2_with fail;refine aI cc ?_;clear cc;refine jd ?_;intro Zl HZ HC HO HP;refine mM (KE T hT Hg kr _ HP.o) (iA eL HR.o) ?_;intro u Tn cc HR
 go_wp2_with fail;refine aI cc ?_;clear cc;refine jd ?_;intro Zn HZ HC HO HP;have c17:=ai.cell ⟨_,HC.o⟩ 17 (.string ⟨#[]⟩) rfl;have Zm:=ai.free ⟨_,HC.o⟩ 17;have bo:=Qh (show(Zn.setCell ⟨ks,17,none⟩ (.string ⟨u.text.toArray⟩)).heap[ks]? = some (.cells ((⟨t0.line,t0.ak,nm,rb.1,rb.2,sa,sz,M1,M2,sc.1,sc.2,dO.1,dO.2,mi.1,mi.2,ma.1,ma.2,u.text⟩:dI).cells (.slice none 0 0)) 63)from (bJ HC.o 17 (.string ⟨u.text.toArray⟩)));have aU:=Qh (aA.new HO.o ks cz 17 (.string ⟨u.text.toArray⟩));have bC:=Qh (dH HZ.o (show w.heap.size≠ks by omega) 17 (.string ⟨u.text.toArray⟩));have bw:=Qh (bD.set HP.o dL 17 (.string ⟨u.text.toArray⟩));go_upto_region 21 with fail
 clear c17 Zm;have HC:=bo;have HO:=aU;have HZ:=bC;have HP:=bw;clear bo aU bC bw;generalize (Zn.setCell ⟨ks,17,none⟩ (.string ⟨u.text.toArray⟩))=gY at *;have pP:=Qh (HO.o.trans (aA.of_below kr (aC gY.heap.size gY).drew));have tY:=Qh (HP.o.keep (aC gY.heap.size gY).drew);have cn:=Hf T hT Tn kr gY.drew tY.o;have hr:=HR.o;rw[run_bind Tn [] kX ee]at hr;try dsimp only at hr
 obtain⟨n1,hx⟩:∃ x,x=(Tn.run [] ee).1:=⟨_,rfl⟩
 obtain⟨sm,hs⟩:∃ s,s=(Tn.run [] ee).2:=⟨_,rfl⟩
 rw[← hx,← hs]at hr cn;have HR:=Qh hr;clear hr hx hs;have c18:=ai.cell ⟨_,HC.o⟩ 18 (.slice none 0 0) rfl;have jo:=Qh (aG.nil gY w.heap.size 9 1 dr);have nu:=HC;have wJ:=HZ;refine wX 7 (fun (w':World)=>w'.cell? ⟨ks,18,none⟩=some (.slice none 0 0)) aj c18 (fun hHeld=>?_);refine hL 0 ?_;refine aL ?_
 refine hL 1 ?_;refine aL ?_
 refine hL 2 ?_;refine zg ?_;intro K hK
 go_simp;refine dF cn ?_;intro dR ho hp;have qM:=Qh (eJ (W:=gY.drew) nu.o ae ho);have GV:=Qh (eJ (W:=gY.drew) wJ.o ae ho);refine fQ (pP.o.trans ho) hp (aG.only (W:=gY.drew) (jo.o.keep (aC gY.heap.size gY).drew af) dG ho) (ai.cell ⟨_,qM.o⟩ 18 (.slice none 0 0) rfl) ?_;intro wK yK yL yM;have hb5:Below dR.heap.size dR (dR.alloc (.cells #[.string ⟨n1.toArray⟩] 9)):=(aC _ _).alloc af _;clear cn ho hp;clear hHeld;refine hK.o _ _ ?_ (fun hHeld=>?_)
 ·exact yM
 clear hK K;refine zh ?_;intro K hK
 go_simp;clear hHeld;refine hK.o _ _ ?_ (fun hHeld=>?_)
 ·exact dx yM hb5
 clear hK K;refine CU ?_;intro K hK
 have tW:=Qh (bF qM.o hb5);have Cs:=Qh (bF GV.o hb5);refine fQ (wK.o.trans (aA.of_below kr hb5)) (yK.o.keep hb5) (yL.o.keep hb5 af) (dK dR (.cells #[.string ⟨n1.toArray⟩] 9)) ?_;intro pE vd lV oO;have oP:w.heap.size≤(dR.alloc (.cells #[.string ⟨n1.toArray⟩] 9)).heap.size:=pE.o.size;clear hb5;generalize dR.alloc (.cells #[.string ⟨n1.toArray⟩] 9)=wL at *;refine FH (en:=dr) xJ [] n1 (g:=dR.heap.size) lV.o (aC w.heap.size wL) oP aB oO ?_ (hone:=Bd);refine AU ?_;intro v5 w5 fP bR fD a5 n5 c5 mG
 subst mG;have fF:=Qh (jQ tW.o lV.o ah fD);refine fQ (jQ Cs.o lV.o ah fD) (aA.low pE.o bR) (bD.low vd.o dG bR) (ai.cell ⟨_,fF.o⟩ 18 (.slice none 0 0) rfl) ?_;intro vu iV pF kP;have qH:=ai.free ⟨_,fF.o⟩ 18;clear bR fD oO oP;clear hHeld;refine hK.o _ _ ?_ (fun hHeld=>?_)
 ·exact kP
 clear hK K;refine aL ?_
 refine hL 6 ?_;refine EX ?_;intro K hK
 go_simp;refine hK.o _ _ ?_;clear hK K;refine Ug (bJ fF.o 18 (.slice a5 n5 c5)) (aA.new iV.o ks cz 18 (.slice a5 n5 c5)) (bD.set pF.o dL 18 (.slice a5 n5 c5)) ?_;intro eU ve gJ jE sJ
 clear fP kP qH c18 yM;generalize W5c:w5.setCell ⟨ks,18,none⟩ (.slice a5 n5 c5)=W50 at *;clear W5c;obtain⟨KF,gu,jb⟩:∃ KF:List (List UInt8)→List aw→PR et,R=sm.run kX (fun ts=>(lO ts.length [n1] ts).bind KF)∧KF=fun NS ts=>.ok ⟨⟨t.line,t.ak,nm,rb.1,rb.2,sa,sz,M1,M2,sc.1,sc.2,dO.1,dO.2,mi.1,mi.2,ma.1,ma.2,u.text⟩,NS⟩ ts:=⟨_,HR.o,rfl⟩
 have jh:=Qh jb;obtain⟨fu,qO,qP⟩:∃ fu:Nat,(∀ ts,sm=.ok ts→ts.length≤fu∧0+ts.length≤T.length)∧R=sm.run kX (fun ts=>(lO fu [n1] ts).bind KF):=by
  cases sm with
  | bad a b c=>exact⟨0,(fun ts e=>sW),gu⟩
  | ok ts=>
   obtain⟨j,hj,rfl,-⟩:=jE.o;exact Ut
 have ue:=Qh qO;have uf:=Qh qP;clear gu jb qO qP;go_wp2_with fail;go_loopw [4] (fun kv wr=>∃ (k fu:Nat) (l:List (List UInt8)) (v:Value) (s1:aF),kv=.int .i64 (k:Nat)∧k≤T.length∧l.length≤k+1∧(∀ ts,s1=.ok ts→ts.length≤fu∧k+ts.length≤T.length)∧R=s1.run kX (fun ts=>(lO fu l ts).bind KF)∧bD wr kr T s1∧aA kr w wr∧wr.heap[ks]? = some (.cells ((⟨t0.line,t0.ak,nm,rb.1,rb.2,sa,sz,M1,M2,sc.1,sc.2,dO.1,dO.2,mi.1,mi.2,ma.1,ma.2,u.text⟩:dI).cells (v)) 63)∧wr.heap[w.heap.size]? = some (.cells kL 63)∧aG wr w.heap.size 9 1 dr v l) (fun kv _=>T.length - (intOf kv).toNat)
 case atStart=>exact⟨0,fu,[n1],_,sm,rfl,bV _,aB,ue.o,uf.o,jE.o,gJ.o,eU.o,ve.o,sJ.o⟩
 case round=>
  obtain⟨k,EK,l,v,s1,rfl,hk,hlk,hf,hr1,fL,ho1,hc1,hz1,hown⟩:=hrel;obtain⟨ap,ahN,Cr⟩:=fL.cell0;refine aY ho1 fL hf ?_;intro fM iF gP;refine lC hr1 hc1 hz1 hown ?_;intro dY oI k9 rJ;have fk:∀ ts,s1=.ok ts→1≤ts.length:=fun ts e=>by
   exact O2
  obtain⟨av,cv,rfl,-⟩:=rJ.o.shape;clear fL ho1 hf hr1 hc1 hz1 hown;by_cases pZ:(k:Int) < T.length
  ·have cs:=EJ 4 [44] T hT s1 kr wr iF.o;cases hS:s1.sees 4 [44]with
   | false=>
    have hst:∀ ts,s1=.ok ts→dt [44] ts=false:=fun ts e=>by
     subst e;obtain⟨j,hj,rfl,-⟩:=iF.o;rw[← sL hT hj (k:=4) ⟨44,[],rfl,.inr ⟨rfl,ah⟩⟩];exact hS
    rw[hS]at cs;clear hS;go_wp2_with fail;refine aQ cs ?_;intro w2 hb;have sP:=Qh (fM.o.trans (aA.of_below kr hb));clear cs;refine fx (iF.o.keep hb) (bF oI.o hb) (bF k9.o hb) (rJ.o.keep hb af) ?_;clear hb;intro vg wP rK wQ;have HV:=Qh (show R=s1.run kX (KF l)by
     rw[dY.o];exact ahL kX KF (fun ts e=>bQ (fk ts e) (gP.o ts e).1) hst)
    clear fk;refine aco ?_;intro CC fB
    have hce:w2.heap[ks]? = some (.cells CC 63):=(by rw[fB];exact wP.o);have eB:=Qh fB;refine UM ?_;intro oW nW;have lU:ai w2 ks CC:=⟨_,hce⟩
    have bz:ai w2 w.heap.size kL:=⟨_,rK.o⟩
    have iP:=underlying63;clear hce fB;go_wp2_with (first|(refine fG lU 63 (.tmp 3) iP Be ?_)|(refine iC (cs:=CC) bz 63 (.tmp 2) (.tmp 101) Be xj nW ?_))
    have hrun:=fo (bz.row CC) 63 _ iP rfl Be;refine bB (v:=.agg CC) (by simp[results,results108,Act.put,asAddr,hrun]) rfl ?_;refine⟨⟨⟨t0.line,t0.ak,nm,rb.1,rb.2,sa,sz,M1,M2,sc.1,sc.2,dO.1,dO.2,mi.1,mi.2,ma.1,ma.2,u.text⟩,l⟩,CC,rfl,⟨.slice av l.length cv,by rw[eB.o],wQ.o.dn ah rK.o (fun b _ hne=>gK _ _ _ _ hne)⟩,sP.o.row _ af CC,?_,fun dp=>?_⟩
    ·rw[HV.o,jh.o];dsimp only;rw[(wW s1 kX _).1];exact vg.o.row dG CC
    ·have ht:=np.o (yR.o dp);exact abV
   | true=>
    cases s1 with
    | bad a b c=>cases hS
    | ok ts=>
     have ia:=iF.o;obtain⟨j,hj,rfl,gS⟩:=ia;rw[hS]at cs;rw[sL hT hj (k:=4) ⟨44,[],rfl,.inr ⟨rfl,ah⟩⟩]at hS;obtain⟨jk,hf2⟩:=gP.o _ rfl;have gA:=fk _ rfl;obtain⟨g,rfl⟩:∃ g,EK = g+1:=⟨EK - 1,ae⟩
     refine aY (show R=((aF.ok (T.drop j).tail).run [] ee).2.run kX (fun ts=>(lO g (l++[((aF.ok (T.drop j).tail).run [] ee).1]) ts).bind KF)by rw[dY.o,asi kX KF hS]) gS (mY hS) ?_;intro HV C8 HK;have hlt:(T.drop j).tail.length+1≤(T.drop j).length:=vF;have tu:(T.drop j).tail.length≤4000000:=(by rw[sZ,e7];omega);clear hS fk gS;go_wp2_with fail;refine aQ cs ?_;intro w2 hb;have hr2:=C8.o.keep hb;have HST:=Qh (hr2.step hT hj HK.o);obtain⟨v2,hc2⟩:=hr2.cells;have f1:=hc2.cell 1 (.int .i64 (j:Nat)) rfl;have r1:=hc2.free 1;have aU:=Qh ((fM.o.trans (aA.of_below kr hb)).set 1 (.int .i64 ((j:Int)+1)));have nu:=Qh (dH (bF oI.o hb) (show ks≠kr by omega) 1 (.int .i64 ((j:Int)+1)));have wJ:=Qh (dH (bF k9.o hb) (show w.heap.size≠kr by omega) 1 (.int .i64 ((j:Int)+1)));have jo:=Qh ((rJ.o.keep hb af).vo (w':=w2.setCell ⟨kr,1,none⟩ (.int .i64 ((j:Int)+1))) fun b BJ=>dN _ ⟨kr,1,none⟩ _ b (by have:=(rJ.o.lt b BJ).1;show b≠kr;omega));generalize (T.drop j).tail=ki at *;generalize (T.drop j).length=n2 at *;clear cs hb hr2 hc2 Cr;go_upto_region 26 with fail
     clear f1 r1;generalize w2.setCell ⟨kr,1,none⟩ (.int .i64 ((j:Int)+1))=W3 at *;have pP:=Qh (aU.o.trans (aA.of_below kr (aC W3.heap.size W3).drew));have tY:=Qh (HST.o.keep (aC W3.heap.size W3).drew);have cn:=Hf T hT (.ok ki) kr W3.drew tY.o;obtain⟨vh,hx⟩:∃ x,x=((aF.ok ki).run [] ee).1:=⟨_,rfl⟩
     obtain⟨Ob,hs⟩:∃ s,s=((aF.ok ki).run [] ee).2:=⟨_,rfl⟩
     have sU:=Qh (show ∀ ts,Ob=.ok ts→ts.length≤ki.length by
      intro ts e;rw[hs]at e;obtain⟨xx,h2⟩:=EH e;unfold ee iy eY at h2;split at h2
      ·split at h2
       ·cases h2;rw[sZ];omega
       ·cases h2
      ·cases h2)
     have hv:=HV.o;rw[← hx,← hs]at hv cn;have HV:=Qh hv;clear hx hs hv;have c18:=ai.cell ⟨_,nu.o⟩ 18 (.slice av l.length cv) rfl;refine Uz ?_;intro hHeld;refine hL 0 ?_;refine aL ?_
     refine hL 1 ?_;refine aL ?_
     refine hL 2 ?_;refine zg ?_;intro K hK
     go_simp;refine dF cn ?_;intro dR ho hp;have qM:=Qh (eJ (W:=W3.drew) nu.o ae ho);have GV:=Qh (eJ (W:=W3.drew) wJ.o ae ho);refine fQ (pP.o.trans ho) hp (aG.only (W:=W3.drew) (jo.o.keep (aC W3.heap.size W3).drew af) dG ho) (ai.cell ⟨_,qM.o⟩ 18 (.slice av l.length cv) rfl) ?_;intro wK yK yL yM;have hb5:Below dR.heap.size dR (dR.alloc (.cells #[.string ⟨vh.toArray⟩] 9)):=(aC _ _).alloc af _;clear cn ho hp;clear hHeld;refine hK.o _ _ ?_ (fun hHeld=>?_)
     ·exact yM
     clear hK K;refine zh ?_;intro K hK
     go_simp;clear hHeld;refine hK.o _ _ ?_ (fun hHeld=>?_)
     ·exact dx yM hb5
     clear hK K;refine CU ?_;intro K hK
     have tW:=Qh (bF qM.o hb5);have Cs:=Qh (bF GV.o hb5);refine fQ (wK.o.trans (aA.of_below kr hb5)) (yK.o.keep hb5) (yL.o.keep hb5 af) (dK dR (.cells #[.string ⟨vh.toArray⟩] 9)) ?_;intro pE vd lV oO;have oP:w.heap.size≤(dR.alloc (.cells #[.string ⟨vh.toArray⟩] 9)).heap.size:=pE.o.size;clear hb5;generalize dR.alloc (.cells #[.string ⟨vh.toArray⟩] 9)=wL at *;refine FH (en:=dr) xJ l vh (g:=dR.heap.size) lV.o (aC w.heap.size wL) oP ae oO ?_ (hone:=Bd);refine AU ?_;intro v5 w5 fP bR fD a5 n5 c5 mG
     subst mG;have fF:=Qh (jQ tW.o lV.o ah fD);refine fQ (jQ Cs.o lV.o ah fD) (aA.low pE.o bR) (bD.low vd.o dG bR) (ai.cell ⟨_,fF.o⟩ 18 (.slice av l.length cv) rfl) ?_;intro vu iV pF kP;have qH:=ai.free ⟨_,fF.o⟩ 18;clear bR fD oO oP;clear hHeld;refine hK.o _ _ ?_ (fun hHeld=>?_)
     ·exact kP
     clear hK K;refine aL ?_
     refine hL 6 ?_;refine EX ?_;intro K hK
     go_simp;refine hK.o _ _ ?_;clear hK K;refine Ug (bJ fF.o 18 (.slice a5 n5 c5)) (aA.new iV.o ks cz 18 (.slice a5 n5 c5)) (bD.set pF.o dL 18 (.slice a5 n5 c5)) ?_;intro eU ve gJ jE sJ
     clear fP kP qH c18 yM;go_wp2_with fail;go_roundw;case rel=>exact⟨k+1,g,l++[vh],_,Ob,bL,ae,sT,(fun ts e=>Ic),HV.o,jE.o,gJ.o,eU.o,ve.o,sJ.o⟩
     case measure=>exact bY
  ·have hst:∀ ts,s1=.ok ts→dt [44] ts=false:=fun ts e=>by
    have h1:=(gP.o ts e).2;have h2:=fk ts e;omega
   have sP:=fM;have vg:=iF;have wP:=oI;have rK:=k9;have wQ:=rJ;have HV:=Qh (show R=s1.run kX (KF l)by
    rw[dY.o];exact ahL kX KF (fun ts e=>bQ (fk ts e) (gP.o ts e).1) hst)
   clear fk;refine aco ?_;intro CC fB
   have hce:wr.heap[ks]? = some (.cells CC 63):=(by rw[fB];exact wP.o);have eB:=Qh fB;refine UM ?_;intro oW nW;have lU:ai wr ks CC:=⟨_,hce⟩
   have bz:ai wr w.heap.size kL:=⟨_,rK.o⟩
   have iP:=underlying63;clear hce fB;go_wp2_with (first|(refine fG lU 63 (.tmp 3) iP Be ?_)|(refine iC (cs:=CC) bz 63 (.tmp 2) (.tmp 101) Be xj nW ?_))
   have hrun:=fo (bz.row CC) 63 _ iP rfl Be;refine bB (v:=.agg CC) (by simp[results,results108,asAddr,hrun]) rfl ?_;refine⟨⟨⟨t0.line,t0.ak,nm,rb.1,rb.2,sa,sz,M1,M2,sc.1,sc.2,dO.1,dO.2,mi.1,mi.2,ma.1,ma.2,u.text⟩,l⟩,CC,rfl,⟨.slice av l.length cv,by rw[eB.o],wQ.o.dn ah rK.o (fun b _ hne=>gK _ _ _ _ hne)⟩,sP.o.row _ af CC,?_,fun dp=>?_⟩
   ·rw[HV.o,jh.o];dsimp only;rw[(wW s1 kX _).1];exact vg.o.row dG CC
   ·have ht:=np.o (yR.o dp);exact abV
end Go.Proofs.YtfflljgnpfldfaaGreatDoor
