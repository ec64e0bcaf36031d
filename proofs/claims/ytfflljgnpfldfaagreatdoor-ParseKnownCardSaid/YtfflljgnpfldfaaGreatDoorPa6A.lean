/-
  busbarlaw06's parts: the places of a database's parts, in order, and the words that stand there.
-/
import Derived.Test.YtfflljgnpfldfaaGreatDoorPtsM
set_option linter.all false
set_option maxHeartbeats 128000000
set_option maxRecDepth 100000
namespace Go.Proofs.YtfflljgnpfldfaaGreatDoor
open Go.RowKit Go.Shelf
def aaQ:List UInt8:=[66,85,95,58,32,65,32,66,79,95,32,50,53,54,32,77,58,32,56,32,65,32,83,71,95,32,120,32,58,32,48,124,56,64,49,43,32,40,49,44,48,41,32,91,48,124,48,93,32,34,34,32,65]
def AQ:aS:=⟨false,⟨0,0,[]⟩,⟨1,1,[[65]]⟩,[⟨1,8,256,false,[77],8,[65],[⟨⟨1,23,[120],0,0,0,8,false,false,1,1,0,1,0,1,0,1,[]⟩,[[65]]⟩]⟩],[]⟩
theorem auf:jX aaQ=.good (bI AQ):=aj
open Go.Proofs.Tryz
theorem auc:oy AQ 1048577 where
 DN:=ah
 xu:=ah
 msg:=by
  intro m hm;simp only[AQ,oY]at hm;subst hm;exact⟨ah,fun x hx=>by simp only[oY]at hx;subst hx;decide⟩
 xw:=ah
 tab:=by intro t ht;cases ht
theorem aud:tq AQ:=fun _=>rfl
theorem aue {w:World} {k:Nat} {C:Array Value} (hC:rf w AQ C.toList) (hk:ai w k C) :
  ∃ (b o c b2 o2 c2:Nat),w.cell? ⟨k,7,none⟩=some (.slice (some ⟨b,o,none⟩) 1 c)∧w.cell? ⟨b,o+2,none⟩=some (.int .u32 256)∧w.cell? ⟨b,o+7,none⟩=some (.slice (some ⟨b2,o2,none⟩) 1 c2)∧w.cell? ⟨b2,o2+2,none⟩=some (.string ⟨#[120]⟩)∧w.cell? ⟨b2,o2+6,none⟩=some (.int .i64 8):=by
 obtain⟨pa,pn,pb,pm,pc,pt,eC,hN,hM,hT⟩:=hC;have hc:=eA.1 eC;obtain⟨b,o,rfl,-,cs,h8,⟨a2,c2,rfl,hs⟩,hr⟩:=hM.at ah (k:=0) ah;obtain⟨b2,o2,e2,-,cs2,h19,⟨a3,c3,rfl,-⟩,hr2⟩:=hs.at ah (k:=0) ah;refine⟨b,o,pm,b2,o2,c2,hk.cell 7 _ ow,?_,?_,?_,?_⟩
 ·have:=hr 2 _ rfl
  simpa [AQ]using this
 ·have:=hr 7 _ rfl;rw[e2]at this
  simpa [AQ]using this
 ·have:=hr2 2 _ rfl
  simpa [AQ]using this
 ·have:=hr2 6 _ rfl
  simpa [AQ]using this
theorem zK (w:World) (hW:eR w) :
  Calls prog 9 #[] w fun e w'=>e=.returned (.bool true)∧Below w.heap.size w w':=by
 have cR:=FA aaQ ah AQ auc aud auf w hW;simp only[aaQ]at cR;clear hW;go_enter func9,ntmps9
 go_wp2_with fail;refine A5 cR ?_;intro w1 C hC hb uB gN;have hb1:Below w.heap.size w (w1.alloc (.cells C 33)):=hb.alloc hb.size _;obtain⟨b,o,c,b2,o2,c2,f1,f2,f3,f4,f5⟩:=aue (tA (vS _ _ _ _ hC ((aC _ _).alloc af (.cells C 33)))) (ai.new w1 C 33);have HB:=Qh hb1;clear cR hC hb hb1;go_upto_region 2 with (refine eX (Z:=bf) (cs:=C) 33 (.tmp 1) (.tmp 5) Ff Dg gN ?_)
 generalize w1.alloc (.cells C 33)=W at *;generalize w1.heap.size=k1 at *;clear uB gN;exact ui
theorem eN.after {s:List UInt8} {p q:Int×Int} {k:Nat} (h:eN s p k q):∀ {n:Nat} {r:Int×Int},eN s p n r→k < n→k+(ay (s.drop k)).2≤n∧s.drop k≠[]:=by
 induction h with
 | zero s p=>
  intro n r h2 hk;cases h2 with
  | zero=>omega
  | step _ _ m _ hne h3=>exact⟨by rw[List.drop_zero];omega,by rw[List.drop_zero];exact hne⟩
 | step s p m q hne h ih=>
  intro n r h2 hk;cases h2 with
  | zero=>omega
  | step _ _ m2 _ QD h3=>
   have:=ih h3 ae;rw[lG]at this;exact⟨ae,this.2⟩
theorem eN.more {s:List UInt8} {p q:Int×Int} {k:Nat} (h:eN s p k q) (hne:s.drop k≠[]):eN s p (k+(ay (s.drop k)).2) (bW q (ay (s.drop k)).1):=by
 have h1:=eN.step (s.drop k) q 0 _ hne (.zero _ _);exact h.trans h1
theorem Vh (s:List UInt8) (hs:s.length≤1000000000) (n:Nat) (hn:n < s.length) (L C:Int) (hb:eN s (1,1) n (L,C)) (w:World) :
  Calls prog 29 #[.string ⟨s.toArray⟩,.agg #[.int .i64 L,.int .i64 C]] w fun e w'=>e=.returned (.int .i64 (n:Nat))∧Below w.heap.size w w':=by
 obtain⟨ta,hsz,bh⟩:=ri w #[.int .i64 L,.int .i64 C] 24;refine fQ ta bh hb (Dl (w.alloc (.cells #[.int .i64 L,.int .i64 C] 24)) ⟨s.toArray⟩ 0) ?_;intro TA0 dS si oz;have QE:Below (w.alloc (.cells #[.int .i64 L,.int .i64 C] 24)).heap.size (w.alloc (.cells #[.int .i64 L,.int .i64 C] 24)) ((w.alloc (.cells #[.int .i64 L,.int .i64 C] 24)).iter ⟨s.toArray⟩ 0):=(aC _ _).alloc af _;rw[hsz]at oz QE;clear ta bh hb;go_enter func29,ntmps29
 go_wp2_with fail;have TA:=Qh (TA0.o.keep (QE.mono (Nat.le_of_eq hsz)) af);have mX:=Qh (dS.o.trans (QE.mono (Nat.le_succ _)));clear hsz dS TA0 QE;generalize (w.alloc (.cells #[.int .i64 L,.int .i64 C] 24)).iter ⟨s.toArray⟩ 0=V at *;go_loopw [5,6] (fun x y wr=>∃ (k:Nat) (q0 q1:Int),k≤n∧x=.int .i64 q0∧y=.int .i64 q1∧0 < q0∧q0≤1+k∧0 < q1∧q1≤1+k∧eN s (1,1) k (q0,q1)∧wr.heap[w.heap.size+1]? = some (.stringIter ⟨s.toArray⟩ k)∧ai wr w.heap.size #[.int .i64 L,.int .i64 C]∧Below w.heap.size w wr) (fun _ _ wr=>s.length - wr.iterPos (w.heap.size+1))
 case atStart=>exact⟨0,1,1,bV _,rfl,rfl,ah,ah,ah,ah,.zero _ _,oz,TA.o,mX.o⟩
 case round=>
  clear oz TA mX;obtain⟨k,q0,q1,hk,rfl,rfl,I2,zR,Mc,QF,lJ,hit,bO,bh⟩:=hrel;have uL:wr.iterPos (w.heap.size+1)=k:=rU hit;have hlt:k < s.length:=ae;have fR:k < (⟨s.toArray⟩:ByteArray).size:=hlt;refine abY ?_;intro dW
  have pY:=BB bh (k:=w.heap.size+1) (Nat.le_succ _) ⟨s.toArray⟩ (k+(ay (s.drop k)).2);have rq:ai (wr.iterAt (w.heap.size+1) ⟨s.toArray⟩ (k+(ay (s.drop k)).2)) w.heap.size #[.int .i64 L,.int .i64 C]:=by
   obtain⟨T,hT⟩:=bO;exact⟨T,by rw[Fw _ _ _ _ _ ae];exact hT⟩
  have oC:(wr.iterAt (w.heap.size+1) ⟨s.toArray⟩ (k+(ay (s.drop k)).2)).heap[w.heap.size+1]? = some (.stringIter ⟨s.toArray⟩ (k+(ay (s.drop k)).2)):=Dm wr (w.heap.size+1) ⟨s.toArray⟩ k _ hit;obtain⟨auQ,auR,-⟩:=pd (s.drop k);have hdm:=adk (s.drop k);obtain⟨c0,c1,-,-⟩:=rq.two;by_cases hkn:k=n
  ·have hq:=si.o;rw[← hkn]at hq;have e:((q0,q1):Int×Int)=(L,C):=by
    have h1:=lJ.place _ af;have h2:=hq.place _ af;rw[h1]at h2;exact Option.some.inj h2
   injection e with e1 e2
   have Md:=Qh hkn;clear hq hkn bO rq hit oC bh uL lJ;subst e1;subst e2;have g1:(q0 == q0)=true:=aB;have g2:(q1 == q1)=true:=aB;generalize (ay (s.drop k)).1=R at *;generalize wr.iterAt (w.heap.size+1) ⟨s.toArray⟩ (k+(ay (s.drop k)).2)=wv at *;go_wp2_with fail;go_ret;exact⟨by rw[Md.o]<;>rfl,pY⟩
  ·have hne:¬ (q0=L∧q1=C):=by
    rintro⟨rfl,rfl⟩;exact hkn (lJ.uniq si.o)
   obtain⟨QG,zS⟩:=lJ.after si.o ae;have HST:=Qh (lJ.more zS);have hw1:IntKind.i64.wrap (q1+1)=q1+1:=IntWalk.i64_in _ ae;have hw0:IntKind.i64.wrap (q0+1)=q0+1:=IntWalk.i64_in _ ae;refine aY oC rq pY ?_;intro Me sj aM;clear bO rq hit oC bh lJ zS hkn pY;have QH:(wr.iterAt (w.heap.size+1) ⟨s.toArray⟩ (k+(ay (s.drop k)).2)).iterPos (w.heap.size+1)=k+(ay (s.drop k)).2:=rU Me.o;generalize (ay (s.drop k)).1=R at *;generalize (ay (s.drop k)).2=N at *;generalize wr.iterAt (w.heap.size+1) ⟨s.toArray⟩ (k+N)=wv at *;cases g10:((R:Int) == 10)
   ·have Mf:bW (q0,q1) R=(q0,q1+1):=by
     unfold bW;rw[gT]at g10;rw[if_neg ae]
    have je:=Qh Mf;clear Mf;by_cases h1:q0=L
    ·have g1:(q0 == L)=true:=(by simp[h1]);have g2:(q1 == C)=false:=(by rw[gT];exact fun h2=>hne ⟨h1,h2⟩);clear hne h1;go_wp2_with fail;go_roundw;case rel=>exact⟨k+N,q0,q1+1,QG,rfl,dV,I2,ae,ae,ae,PM,Me.o,sj.o,aM.o⟩
     case measure=>rw[QH,uL];omega
    ·have g1:(q0 == L)=false:=(by rw[gT];exact h1);clear hne h1;go_wp2_with fail;go_roundw;case rel=>exact⟨k+N,q0,q1+1,QG,rfl,dV,I2,ae,ae,ae,PM,Me.o,sj.o,aM.o⟩
     case measure=>rw[QH,uL];omega
   ·have Mf:bW (q0,q1) R=(q0+1,1):=by
     unfold bW;rw[dZ]at g10;rw[if_pos ae]
    have je:=Qh Mf;clear Mf;by_cases h1:q0=L
    ·have g1:(q0 == L)=true:=(by simp[h1]);have g2:(q1 == C)=false:=(by rw[gT];exact fun h2=>hne ⟨h1,h2⟩);clear hne h1;go_wp2_with fail;go_roundw;case rel=>exact⟨k+N,q0+1,1,QG,dV,rfl,ae,ae,ah,ae,PM,Me.o,sj.o,aM.o⟩
     case measure=>rw[QH,uL];omega
    ·have g1:(q0 == L)=false:=(by rw[gT];exact h1);clear hne h1;go_wp2_with fail;go_roundw;case rel=>exact⟨k+N,q0+1,1,QG,dV,rfl,ae,ae,ah,ae,PM,Me.o,sj.o,aM.o⟩
     case measure=>rw[QH,uL];omega
theorem Qa (L:List UInt8) (i n:Nat):(⟨L.toArray⟩:ByteArray).extract i (i+n)=⟨((L.drop i).take n).toArray⟩:=by
 exact abZ
theorem ajX (s t:List UInt8) (hs:s.length≤1000000000) (k:Nat) (hk:k+t.length≤s.length) (ht:(s.drop k).take t.length=t) (w:World) :
  Calls prog 33 #[.string ⟨s.toArray⟩,.int .i64 (k:Nat),.string ⟨t.toArray⟩] w fun e w'=>e=.returned (.bool true)∧w' = w:=by
 have hex:=Qa s k t.length;rw[ht]at hex;have hwk:IntKind.i64.wrap ((k:Int)+(t.length:Int))=(k:Int)+(t.length:Int):=IntWalk.i64_in _ ae;have hle:(k:Int)+(t.length:Int)≤(s.length:Int):=ae;have zS:0≤(k:Int)+(t.length:Int):=ae;have htn:((k:Int)+(t.length:Int)).toNat=k+t.length:=ae;clear ht;go_enter func33,ntmps33
 exact Hx
def Df (m:Mark):List Value:=[.int .i64 m.2.1,.int .i64 m.2.2]
def Fi (m:Mark):List Value:=[.string ⟨m.1.toArray⟩]
theorem RU:eO prog 88 24 2 16:=eO.mk' (.agg #[.int .i64 0,.int .i64 0]) underlying88 aj rfl ah ah
theorem RV:eO prog 27 9 1 16:=eO.mk' (.string ⟨#[]⟩) underlying27 aj rfl ah ah
structure tP (w0 w:World) (l u:Value) (M:List Mark):Prop where
 pl:aG w w0.heap.size 24 2 Df l M
 wd:aG w w0.heap.size 9 1 Fi u M
 cL:Below w0.heap.size w0 w
theorem tP.nil (w:World):tP w w (.slice none 0 0) (.slice none 0 0) []:=⟨aG.nil _ _ _ _ _,aG.nil _ _ _ _ _,aC _ _⟩
theorem Vg (d:aS) (h1:d.msgs.length≤1000000) (h2:d.tabs.length≤1000000) (C:Array Value) (w:World) (hC:rf w d C.toList) :
  Calls prog 27 #[.agg C] w fun e w'=>∃ l u,e=.returned (.tuple #[l,u])∧tP w w' l u ((bI d).map ji):=by
 obtain⟨pa,pn,pb,pm,pc,pt,eC,hN,hM,hT⟩:=hC;have hc:=eA.1 eC;clear eC;have ix:=(aC w.heap.size w).alloc af (.cells C 33);have bO:=ai.new w C 33;refine aY (hM.keep iE ix) (hT.keep jP ix) ix ?_;intro HM HT HB;have hkb:w.heap.size < (w.alloc (.cells C 33)).heap.size:=aB;have c0:=bO.cell 0 (.bool d.has) ow;have c1:=bO.cell 1 (.int .i64 d.bG.line) ow;have c2:=bO.cell 2 (.int .i64 d.bG.ak) ow;have c4:=bO.cell 4 (.int .i64 d.aR.line) ow;have c5:=bO.cell 5 (.int .i64 d.aR.ak) ow;have Jp:C[7]? = some (.slice pb d.msgs.length pm):=ow;have hc8:C[8]? = some (.slice pc d.tabs.length pt):=ow;have HK:=Qh bO;clear hN hM hT ix bO hc;have hH:∃ H0:List Mark,H0=(if d.has then [([86,69,82,83,73,79,78],d.bG.line,d.bG.ak)] else [])∧(bI d).map ji=H0++(([66,85,95],d.aR.line,d.aR.ak)::(d.msgs.map (fun m=>(([66,79,95],m.line,m.ak):Mark))++d.tabs.map (fun t=>(([86,65,76,95],t.line,t.ak):Mark)))):=by
  refine⟨_,rfl,?_⟩;unfold bI;cases d.has<;>simp[ji,Function.comp_def]
 obtain⟨H0,yz,hHd⟩:=hH;have yC:=Qh hHd;clear hHd;obtain⟨hv,Eh⟩:∃ hv,d.has=hv:=⟨_,rfl⟩
 rw[Eh]at c0 yz;clear Eh;go_enter func27,ntmps27
 go_upto_region 3 with fail
 generalize w.alloc (.cells C 33)=W at *;generalize xH:w.heap.size=kb at *;have Ah:=Qh xH;clear xH;have XL:=Qh (tP.nil W);go_upto_if 9 with (fail)
 go_cut [4,5] (fun l u ws=>tP W ws l u H0)
 case first=>
  have ho:=XL.o.pl;have hw:=XL.o.wd;cases hv
  ·have HH:=Qh (show H0=[]by rw[yz];rfl);clear yz ho hw;go_wp2_with fail;go_meet
   case rel=>rw[HH.o];exact XL.o
  ·have HH:=Qh (show H0=[([86,69,82,83,73,79,78],d.bG.line,d.bG.ak)]by rw[yz];rfl);clear yz;go_upto_region 5 with (at_builtin;go_loud (refine iL (en:=Df) RU [] ([86,69,82,83,73,79,78],d.bG.line,d.bG.ak) ho (aC W.heap.size W) af aB ?_ (hone:=P7)))
   refine Pa ?_;intro l1 W1 ho1 hb1 iY hw1 hs1 fM bX x1 y1 e1;subst e1;clear ho hw iY ho1 hb1;go_wp2_with (at_builtin;go_loud (refine iL (en:=Fi) RV [] ([86,69,82,83,73,79,78],d.bG.line,d.bG.ak) hw1 (aC W.heap.size W1) hs1 aB ?_ (hone:=P8)))
   rintro u1 W2 hu1 hb2 hg2 -;have HT2:=Qh (show tP W W2 _ u1 H0 by rw[HH.o];exact⟨fM.o.nH hw1 ah hg2,hu1,bX.o.trans hb2⟩);clear hu1 hb2 hg2 hw1;go_wp2_with fail;go_meet
   case rel=>exact HT2.o
 case rest=>
  refine xf ?_;intro Wr XM
  subst XM;have RX:=Qh hcut;have hs0:=hcut.cL.size;have ho:=hcut.pl;have hw:=hcut.wd;have f4:=dx c4 hcut.cL;have f5:=dx c5 hcut.cL;obtain⟨x0,y0,e0,-⟩:=ho.shape;subst e0;obtain⟨x1,y1,e1,-⟩:=hw.shape;subst e1;have hl0:H0.length≤1:=(by rw[yz];cases hv<;>simp);clear hcut c0 c1 c2 c4 c5 yz;go_upto_region 7 with (at_builtin;go_loud (refine iL (en:=Df) RU H0 ([66,85,95],d.aR.line,d.aR.ak) ho (aC W.heap.size Wr) hs0 ae ?_ (hone:=P7)))
  refine Pa ?_;intro l1 W1 ho1 hb1 iY hw1 hs1 fM bX x2 y2 e2;rw[ey,dz,lF,kF]at e2;subst e2;clear ho hw iY ho1 hb1 f4 f5;go_upto_region 8 with (at_builtin;go_loud (refine iL (en:=Fi) RV H0 ([66,85,95],d.aR.line,d.aR.ak) hw1 (aC W.heap.size W1) ae ae ?_ (hone:=P8)))
  rintro u1 W2 hu1 hb2 hg2 -;have HA:=Qh (show tP W W2 _ u1 (H0++[([66,85,95],d.aR.line,d.aR.ak)])from ⟨fM.o.nH hw1 ah hg2,hu1,(RX.o.cL.trans bX.o).trans hb2⟩);clear hu1 hb2 hg2 hw1 hs1 hs0 RX fM bX;obtain⟨H1,RY⟩:∃ H1,H1=H0++[(([66,85,95],d.aR.line,d.aR.ak):Mark)]:=⟨_,rfl⟩
  rw[← RY]at HA;have kJ:H1.length≤2:=(by rw[RY,ey];simp;omega);have HH1:=Qh RY;clear RY hl0;obtain⟨mb,mo,me⟩:∃ b o,0 < d.msgs.length→pb=some ⟨b,o,none⟩:=by
   by_cases h0:0 < d.msgs.length
   ·obtain⟨b,o,e,-⟩:=HM.o.at ah h0;exact⟨b,o,fun _=>e⟩
   ·exact Po
  have f7:=HK.o.cell 7 _ Jp;go_upto_region 9 with fail
  go_loopw [4,5,6] (fun l u iv wr=>∃ i:Nat,i≤d.msgs.length∧iv=.int .i64 (i:Nat)∧tP W wr l u (H1++(d.msgs.take i).map (fun m=>(([66,79,95],m.line,m.ak):Mark)))) (fun _ _ iv _=>d.msgs.length - (intOf iv).toNat)
  case atStart=>exact⟨0,bV _,rfl,by rw[List.take_zero,BC,pT];exact HA.o⟩
  case round=>
   clear HA;obtain⟨i,hi,rfl,ht⟩:=hrel;have fr:=dx f7 ht.cL;have hs0:=ht.cL.size;by_cases hlt:(i:Int) < d.msgs.length
   ·have a8:i < d.msgs.length:=ae;obtain⟨b',o',e',-,cs,hcl,ep,hrg⟩:=(HM.o.keep iE ht.cL).at ah a8;have yD:=me ae;rw[yD]at e';cases e'
    rw[yD]at fr;obtain⟨xa,xc,iu,-⟩:=ep;have q0:=hrg 0 (.int .i64 d.msgs[i].line) Bl;have q1:=hrg 1 (.int .i64 d.msgs[i].ak) Bl;rw[q7]at q0;have kY:=Qh (show(H1++(d.msgs.take i).map (fun m=>(([66,79,95],m.line,m.ak):Mark)))++[(fun m=>(([66,79,95],m.line,m.ak):Mark)) d.msgs[i]]=H1++(d.msgs.take (i+1)).map (fun m=>(([66,79,95],m.line,m.ak):Mark))by rw[← List.take_append_getElem a8,vO,o6];rfl);have hll:(H1++(d.msgs.take i).map (fun m=>(([66,79,95],m.line,m.ak):Mark))).length≤1000002:=U5;have Nk:=Qh ht;have L0:=Qh (show(fun m=>(([66,79,95],m.line,m.ak):Mark)) d.msgs[i]=([66,79,95],d.msgs[i].line,d.msgs[i].ak)from rfl);have ho:=ht.pl;have hw:=ht.wd;obtain⟨x0,y0,e0,-⟩:=ho.shape;subst e0;obtain⟨x1,y1,e1,-⟩:=hw.shape;subst e1;generalize d.msgs[i].line=Ln at *;generalize d.msgs[i].ak=Cn at *;generalize H1++(d.msgs.take i).map (fun m=>(([66,79,95],m.line,m.ak):Mark))=HH at *;clear hrg iu yD ht hi;go_upto_region 12 with (at_builtin;go_loud (refine iL (en:=Df) RU HH ([66,79,95],Ln,Cn) ho (aC W.heap.size wr) hs0 ae ?_ (hone:=P7)))
    refine Pa ?_;intro l1 W1 ho1 hb1 iY hw1 hs1 fM bX x2 y2 e2;rw[ey,dz,lF,kF]at e2;subst e2;clear ho hw iY ho1 hb1 q0 q1 fr;go_wp2_with (at_builtin;go_loud (refine iL (en:=Fi) RV HH ([66,79,95],Ln,Cn) hw1 (aC W.heap.size W1) ae ae ?_ (hone:=P8)))
    rintro u1 W3 hu1 hb2 hg2 -;have HN:=Qh (show tP W W3 _ u1 (H1++(d.msgs.take (i+1)).map (fun m=>(([66,79,95],m.line,m.ak):Mark)))by rw[← kY.o,L0.o];exact⟨fM.o.nH hw1 ah hg2,hu1,(Nk.o.cL.trans bX.o).trans hb2⟩);clear hu1 hb2 hg2 hw1 hs1 hs0 Nk fM bX;go_wp2_with fail;go_roundw;case rel=>exact⟨i+1,ae,bL,HN.o⟩
    case measure=>exact bY
   ·have vU:i=d.msgs.length:=ae;have XN:=Qh (show tP W wr _ _ (H1++d.msgs.map (fun m=>(([66,79,95],m.line,m.ak):Mark)))by rw[vU,vN]at ht;exact ht);have bh:=ht.cL;clear ht vU hi hs0 f7;obtain⟨H2,RZ⟩:∃ H2,H2=H1++d.msgs.map (fun m=>(([66,79,95],m.line,m.ak):Mark)):=⟨_,rfl⟩
    rw[← RZ]at XN;have hl2:H2.length≤1000002:=(by rw[RZ,ey,iw];omega);have HH2:=Qh RZ;clear RZ;have HT1:=HT;obtain⟨tb,tof,te⟩:∃ b o,0 < d.tabs.length→pc=some ⟨b,o,none⟩:=by
     by_cases h0:0 < d.tabs.length
     ·obtain⟨b,o,e,-⟩:=HT1.o.at ah h0;exact⟨b,o,fun _=>e⟩
     ·exact Po
    have f8:=HK.o.cell 8 _ hc8;go_wp2_with fail;clear fr;go_loopw [4,5,7] (fun l u iv wr=>∃ i:Nat,i≤d.tabs.length∧iv=.int .i64 (i:Nat)∧tP W wr l u (H2++(d.tabs.take i).map (fun t=>(([86,65,76,95],t.line,t.ak):Mark)))) (fun _ _ iv _=>d.tabs.length - (intOf iv).toNat)
    case atStart=>exact⟨0,bV _,rfl,by rw[List.take_zero,BC,pT];exact XN.o⟩
    case round=>
     clear XN;obtain⟨i,hi,rfl,ht⟩:=hrel;have fr:=dx f8 ht.cL;have hs0:=ht.cL.size;by_cases hlt:(i:Int) < d.tabs.length
     ·have a8:i < d.tabs.length:=ae;obtain⟨b',o',e',-,cs,hcl,ep,hrg⟩:=(HT1.o.keep jP ht.cL).at ah a8;have yD:=te ae;rw[yD]at e';cases e'
      rw[yD]at fr;obtain⟨xa,xc,iu,-⟩:=ep;have q0:=hrg 0 (.int .i64 d.tabs[i].line) Bl;have q1:=hrg 1 (.int .i64 d.tabs[i].ak) Bl;rw[q7]at q0;have kY:=Qh (show(H2++(d.tabs.take i).map (fun t=>(([86,65,76,95],t.line,t.ak):Mark)))++[(fun t=>(([86,65,76,95],t.line,t.ak):Mark)) d.tabs[i]]=H2++(d.tabs.take (i+1)).map (fun t=>(([86,65,76,95],t.line,t.ak):Mark))by rw[← List.take_append_getElem a8,vO,o6];rfl);have hll:(H2++(d.tabs.take i).map (fun t=>(([86,65,76,95],t.line,t.ak):Mark))).length≤2000002:=U5;have Nk:=Qh ht;have L0:=Qh (show(fun t=>(([86,65,76,95],t.line,t.ak):Mark)) d.tabs[i]=([86,65,76,95],d.tabs[i].line,d.tabs[i].ak)from rfl);have ho:=ht.pl;have hw:=ht.wd;obtain⟨x0,y0,e0,-⟩:=ho.shape;subst e0;obtain⟨x1,y1,e1,-⟩:=hw.shape;subst e1;generalize d.tabs[i].line=Ln at *;generalize d.tabs[i].ak=Cn at *;generalize H2++(d.tabs.take i).map (fun t=>(([86,65,76,95],t.line,t.ak):Mark))=HH at *;clear hrg iu yD ht hi;go_upto_region 17 with (at_builtin;go_loud (refine iL (en:=Df) RU HH ([86,65,76,95],Ln,Cn) ho (aC W.heap.size wr) hs0 ae ?_ (hone:=P7)))
      refine Pa ?_;intro l1 W1 ho1 hb1 iY hw1 hs1 fM bX x2 y2 e2;rw[ey,dz,lF,kF]at e2;subst e2;clear ho hw iY ho1 hb1 q0 q1 fr;go_wp2_with (at_builtin;go_loud (refine iL (en:=Fi) RV HH ([86,65,76,95],Ln,Cn) hw1 (aC W.heap.size W1) ae ae ?_ (hone:=P8)))
      rintro u1 W3 hu1 hb2 hg2 -;have HN:=Qh (show tP W W3 _ u1 (H2++(d.tabs.take (i+1)).map (fun t=>(([86,65,76,95],t.line,t.ak):Mark)))by rw[← kY.o,L0.o];exact⟨fM.o.nH hw1 ah hg2,hu1,(Nk.o.cL.trans bX.o).trans hb2⟩);clear hu1 hb2 hg2 hw1 hs1 hs0 Nk fM bX;go_wp2_with fail;go_roundw;case rel=>exact⟨i+1,ae,bL,HN.o⟩
      case measure=>exact bY
     ·have zW:i=d.tabs.length:=ae;have HF:=Qh (show tP W wr _ _ ((bI d).map ji)by rw[yC.o];rw[zW,vN,HH2.o,HH1.o]at ht;simpa [o6]using ht);clear ht zW hi hs0 f8;go_wp2_with fail;go_ret2
      exact⟨_,_,rfl,HF.o.pl.fU (by rw[Ah.o];exact gV hkb),HF.o.wd.fU (by rw[Ah.o];exact gV hkb),by rw[Ah.o];exact HB.o.trans (HF.o.cL.mono (gV hkb))⟩
theorem Vl {w0 w:World} {la ua:Option Addr} {n c m cu:Nat} {M:List Mark} (h:tP w0 w (.slice la n c) (.slice ua m cu) M) (h0:0 < M.length) :
  n=M.length∧m=M.length∧∃ lb lo ub uo,la=some ⟨lb,lo,none⟩∧ua=some ⟨ub,uo,none⟩∧∀ j (hj:j < M.length),w.cell? ⟨lb,lo+j*2,none⟩=some (.int .i64 M[j].2.1)∧w.cell? ⟨lb,lo+j*2+1,none⟩=some (.int .i64 M[j].2.2)∧w.cell? ⟨ub,uo+j,none⟩=some (.string ⟨M[j].1.toArray⟩):=by
 obtain⟨e1,s1⟩:=h.pl.sl;obtain⟨e2,s2⟩:=h.wd.sl;obtain⟨lb,lo,rfl,-,-⟩:=bA.cells s1 (fun _=>rfl) ah h0;obtain⟨ub,uo,rfl,-,-⟩:=bA.cells s2 (fun _=>rfl) ah h0;refine⟨e1,e2,lb,lo,ub,uo,rfl,rfl,fun j hj=>?_⟩;obtain⟨b,o,e,-,h3⟩:=bA.cells s1 (fun _=>rfl) ah hj;cases e
 obtain⟨b,o,e,-,h4⟩:=bA.cells s2 (fun _=>rfl) ah hj;cases e
 refine⟨?_,?_,?_⟩
 ·simpa [Df]using h3 0 ah
 ·simpa [Df,kE]using h3 1 ah
 ·simpa [Fi]using h4 0 ah
end Go.Proofs.YtfflljgnpfldfaaGreatDoor
