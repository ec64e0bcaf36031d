/-
  Layer 5: node.stations, node.table: contracts. (Printed by gen_nod.py.)
-/
import Derived.Test.YtfflljgnpfldfaaGreatDoorCopC
set_option linter.all false
set_option maxHeartbeats 128000000
set_option maxRecDepth 100000
namespace Go.Proofs.YtfflljgnpfldfaaGreatDoor
open Go.Proofs.Tryz
open Go.RowKit
def M6 (m n p:Nat):Prop:=p=Nat.gcd m n∨(0 < p∧Nat.gcd m n ∣ p∧p*18446744073709551616≤n)
structure M7 (m n i p q:Nat):Prop where
 gcd:Nat.gcd p q=Nat.gcd m n
 size:1≤i→q < p∧p*2 ^ ((i - 1) / 2)≤n∧q*2 ^ (i / 2)≤n
 first:i=0→p=m∧q=n
theorem aok {m n i p q:Nat} (h:M7 m n i p q) (hq:0 < q):M7 m n (i+1) q (p % q):=by
 have hlt:=ic p hq;refine⟨?_,fun _=>⟨hlt,?_,?_⟩,fun h0=>ae⟩
 ·rw[← h.gcd,Nat.gcd_comm p q,Nat.gcd_rec q p,Nat.gcd_comm]
 ·rw[Nat.add_sub_cancel];rcases qu i with h0|h0
  ·subst h0;obtain⟨rfl,rfl⟩:=h.first rfl;simp
  ·exact(h.size h0).2.2
 ·rcases qu i with h0|h0
  ·subst h0;obtain⟨rfl,rfl⟩:=h.first rfl;simp;omega
  ·obtain⟨h1,h2,h3⟩:=h.size h0;have e:(i+1) / 2=(i - 1) / 2+1:=ae;have h4:p % q*2≤p:=by
    have h5:=Nat.div_add_mod p q;have h6:1≤p / q:=(IC hq).2 ae;have h7:=zw q h6;omega
   rw[e,e8,e9 (2 ^ _) 2,← lH];exact bQ (vL _ h4) h2
theorem aol {m n i p:Nat} (h:M7 m n i p 0):M6 m n p:=.inl (by rw[← h.gcd,Nat.gcd_zero_right])
theorem aom {m n i p q:Nat} (h:M7 m n i p q) (hq:0 < q) (hi:64*((aT p).length+(aT q).length)+2≤i):M6 m n p:=by
 have yu:1≤(aT q).length:=by
  rcases qu (aT q).length with h0|h0
  ·have:=(nT q 0).1 ae;simp at this;omega
  ·exact h0
 obtain⟨h1,h2,h3⟩:=h.size ae;have hpl:1≤(aT p).length:=by
  rcases qu (aT p).length with h0|h0
  ·have:=(nT p 0).1 ae;simp at this;omega
  ·exact h0
 refine .inr ⟨ae,by rw[← h.gcd];exact zD p q,?_⟩;have h4:(2:Nat) ^ 64≤2 ^ ((i - 1) / 2):=xr ah ae;have e:(2:Nat) ^ 64=18446744073709551616:=(by decide +kernel);rw[e]at h4;exact bQ (zw p h4) h2
def aon (m n g:Nat) (w wr:World) (x y i:Value):Prop:=∃ p q k:Nat,g=q∧lQ wr x p∧lQ wr y q∧i=.int .i64 (k:Nat)∧M7 m n k p q∧(aT p).length≤100000∧(aT q).length≤100000∧k≤64*200000+2∧Below w.heap.size w wr
def aoo (w:World) (m n:Nat) (e:Ending) (w':World):Prop:=∃ v p,e=.returned v∧lQ w' v p∧M6 m n p∧(aT p).length≤100000∧Below w.heap.size w w'
theorem aop (m n:Nat) (a b:Option Addr) (ca cb:Nat) (hm:(aT m).length≤100000) (hn:(aT n).length≤100000) (w:World) (hs:jL w a ca (aT m)) (ht:jL w b cb (aT n)) :
  Calls prog 236 #[.slice a (aT m).length ca,.slice b (aT n).length cb] w (aoo w m n):=by
 have HS:=Qh (show lQ w (.slice a (aT m).length ca) m from ⟨a,ca,rfl,hs⟩);have HT:=Qh (show lQ w (.slice b (aT n).length cb) n from ⟨b,cb,rfl,ht⟩);clear hs ht;go_enter func236,ntmps236
 go_wp2_with fail;go_loopg [0,1,5] n (fun g x y i wr=>aon m n g w wr x y i)
 case atStart=>exact⟨m,n,0,rfl,HS.o,HT.o,rfl,⟨rfl,fun h=>ae,fun _=>⟨rfl,rfl⟩⟩,hm,hn,ae,aC _ _⟩
 case round=>
  obtain⟨p,q,k,hg,⟨ap,cp,rfl,hsp⟩,⟨aq,cq,rfl,Gp⟩,rfl,hc,Li,QB,hk,hb⟩:=hrel;obtain⟨gq,hgq⟩:∃ x,x=gk:=⟨_,rfl⟩
  subst hgq;have HG:=Qh hg;have HC:=Qh hc;clear hg hc;have I2:(aT q).length=0↔q=0:=(by rw[pS,afe]);refine aY (show lQ wr (.slice ap (aT p).length cp) p from ⟨ap,cp,rfl,hsp⟩) (show lQ wr (.slice aq (aT q).length cq) q from ⟨aq,cq,rfl,Gp⟩) (fun hq hi=>aom HC.o (q:=q) hq hi) ?_;intro HNP Rx aff;by_cases hz:q=0
  ·have hl0:(aT q).length=0:=I2.2 hz;have HE:=Qh (show M6 m n p by subst hz;exact aol HC.o);rw[hl0]at *;clear I2 hl0 hz hsp Gp HC aff HG HS HT hm hn;generalize M8:(aT p).length=lp at *;have HLP:=Qh M8;clear M8;by_cases Cl:(k:Int) < 64*(lp:Int)+2
   ·exact UC
   ·exact UC
  ·have yu:0 < (aT q).length:=ae;have Xy:=Xq p q ae ap aq cp cq Li QB wr hsp Gp;have HST:=Qh (aok HC.o (show 0 < q by omega));have BF:(aT (p % q)).length≤(aT q).length:=(nT _ _).2 (iH (ic p ae) (gV ((nT q _).1 af)));have HML:=Qh (show(aT (p % q)).length≤100000 by omega);have HLT:=Qh (ic p (show 0 < q by omega));have zR:0 < q:=ae;have HQ1:=Qh zR;clear I2 hz hsp Gp HC BF zR HS HT hm hn;generalize M8:(aT p).length=lp at *;generalize afg:(aT q).length=lq at *;have HLP:=Qh M8;have HLQ:=Qh afg;clear M8 afg;by_cases Cl:(k:Int) < 64*((lp:Int)+(lq:Int))+2
   ·have Mc:(0:Int) < lq:=ae;go_wp2_with fail;refine aI Xy ?_;rintro e w1 ⟨v,u,rfl,rN,hnu,hb1⟩;refine aY hnu (Rx.o.keep hb1) (aH hb hb1 af) ?_;intro HNU aoq bX;clear rN hnu hb1 Xy;go_wp2_with fail;go_roundg (p % q)
    case measure=>rw[HG.o];exact HLT.o
    case rel=>exact⟨q,p % q,k+1,rfl,aoq.o,HNU.o,bL,HST.o,by rw[HLQ.o];exact QB,HML.o,ae,bX.o⟩
   ·have HE:=Qh (aff.o HQ1.o ae);clear Xy;exact UC
def yv (r:Option (Int×Int)):Value:=
 match r with
 | some (n,d)=>.tuple #[.agg #[.int .i64 n,.int .i64 d],.int .i64 0]
 | none=>.tuple #[.agg #[.int .i64 0,.int .i64 0],.int .i64 9]
theorem Xz (neg:Bool) (D:Nat):ew neg 0 D=some (0,1):=by
 unfold ew;rw[Nat.zero_div];exact afh _ _
theorem aor (neg:Bool) (N D p:Nat) (h:M6 N D p) (hN:N≠0) (hD:0 < D) :
  ew neg N D=(if 9223372036854775807 < D / p∨9223372036854775808 < N / p∨(N / p=9223372036854775808∧neg=false) then none else some (fh neg (N / p),((D / p:Nat):Int)))∧0 < p:=by
 have hg:0 < Nat.gcd N D:=Iw N hD;rcases h with rfl|⟨hp,rE,hle⟩
 ·refine⟨?_,hg⟩;have h0:N / Nat.gcd N D≠0:=by
   have h1:=Nat.div_mul_cancel (zD N D);exact Ph
  unfold ew ld;rw[if_neg h0]
 ·have h1:18446744073709551616≤D / p:=(by rw[IC hp,e9];exact hle);have h2:D / p≤D / Nat.gcd N D:=Nat.div_le_div_left (Nat.le_of_dvd hp rE) hg;refine⟨?_,hp⟩;rw[if_pos (.inl ae)];have h0:N / Nat.gcd N D≠0:=by
   have h1:=Nat.div_mul_cancel (zD N D);exact Ph
  unfold ew ld;rw[if_neg h0,if_pos (.inl ae)]
theorem aos (k:Nat) (h:k≤9223372036854775808):wrap64 (-(wrap64 (k:Int))) = -(k:Int):=by
 unfold wrap64;omega
theorem afi (neg:Bool) (N D:Nat) (hD:0 < D) (hn:(aT N).length≤100000) (hd:(aT D).length≤100000) (a b:Option Addr) (ca cb:Nat) (w:World) (hs:jL w a ca (aT N)) (ht:jL w b cb (aT D)) :
  Calls prog 208 #[.agg #[.bool neg,.slice a (aT N).length ca,.slice b (aT D).length cb]] w fun e w'=>e=.returned (yv (ew neg N D))∧Below w.heap.size w w':=by
 obtain⟨ta,tr,hsz,bh⟩:=rj w #[.bool neg,.slice a (aT N).length ca,.slice b (aT D).length cb] #[.int .i64 0,.int .i64 0] 324 61;have HS:=Qh (show lQ w (.slice a (aT N).length ca) N from ⟨a,ca,rfl,hs⟩);clear hsz;refine fx (show lQ w (.slice b (aT D).length cb) D from ⟨b,cb,rfl,ht⟩) ta tr bh ?_;clear ta tr;intro HT TA TR HB;by_cases hN:N=0
 ·subst hN;have hl0:(aT 0).length=0:=(by rw[uU];rfl);rw[Xz];rw[hl0]at *;clear HS HT hs ht bh;go_enter func208,ntmps208
  go_wp2_with fail;exact bB (v:=.tuple #[.agg #[.int .i64 0,.int .i64 1],.int .i64 0]) (by simp[results,results208,go_sem]) rfl ⟨rfl,by first|exact((aC _ _).alloc af _).alloc aB _|exact(HB.o.setCell aB _).setCell aB _⟩
 ·have hl0:¬ (aT N).length=0:=(by rw[pS,afe];exact hN);have kJ:(((aT N).length:Int) == 0)=false:=ft;obtain⟨F,hF⟩:∃ F,F=ew neg N D:=⟨_,rfl⟩
  rw[← hF];have HF:=Qh hF;have cc:=aop N D a b ca cb hn hd _ (hs.keep bh af) (ht.keep bh af);have uR:=Qh hN;have HD0:=Qh hD;clear hF hs ht bh hN hl0;go_enter func208,ntmps208
  go_wp2_with fail;refine aI cc ?_;rintro e w1 ⟨v,p,rfl,⟨ap,cp,rfl,hsp⟩,afj,Li,hb1⟩;obtain⟨yw,hp⟩:=aor neg N D p afj uR.o HD0.o;rw[← HF.o]at yw;refine aY yw hsp hp ?_;intro JK Gq HP;replace TA:=Qh (TA.o.keep hb1 af);replace TR:=Qh (TR.o.keep hb1 af);have bX:=Qh (aH HB.o hb1 af);obtain⟨y0,y1,y2,y3,y4,y5⟩:=TA.o.three;obtain⟨aN,cN,hNe,hsN⟩:=HS.o.keep bX.o;obtain⟨aD,cD,M9,Ry⟩:=HT.o.keep bX.o;simp only[Value.slice.injEq,true_and]at hNe M9;obtain⟨rfl,rfl⟩:=hNe;obtain⟨rfl,rfl⟩:=M9;have d1:=Xq N p hp a ap ca cp hn Li w1 hsN hsp;clear cc afj yw hsp hp hb1 hsN Ry;go_wp2_with fail;refine aI d1 ?_;rintro e w2 ⟨v1,u1,rfl,⟨a1,c1,rfl,hs1⟩,_,hb2⟩;replace TA:=Qh (TA.o.keep hb2 af);replace TR:=Qh (TR.o.keep hb2 af);have aM:=Qh (aH bX.o hb2 af);clear y0 y1 y2 y3 y4 y5;obtain⟨y0,y1,y2,y3,y4,y5⟩:=TA.o.three;obtain⟨aD,cD,M9,Ry⟩:=HT.o.keep aM.o;simp only[Value.slice.injEq,true_and]at M9;obtain⟨rfl,rfl⟩:=M9;have d2:=Xq D p HP.o b ap cb cp hd Li w2 Ry (Gq.o.keep hb2 af);have Ae:=Qh hs1;clear d1 hb2 Ry hs1;go_wp2_with fail;refine aI d2 ?_;rintro e w3 ⟨v2,u2,rfl,⟨a2,c2,rfl,hs2⟩,_,hb3⟩;replace TA:=Qh (TA.o.keep hb3 af);replace TR:=Qh (TR.o.keep hb3 af);have bT:=Qh (aH aM.o hb3 af);have e1:=ae0 (N / p) a1 c1 w3 (Ae.o.keep hb3 af);have e2:=ae0 (D / p) a2 c2 w3 hs2;clear y0 y1 y2 y3 y4 y5 d2 hb3 hs2;generalize N / p=x at *;generalize D / p=y at *;obtain⟨one,hone⟩:∃ o,o=decide (x < 18446744073709551616):=⟨_,rfl⟩
  obtain⟨two,JL⟩:∃ o,o=decide (y < 18446744073709551616):=⟨_,rfl⟩
  have hxm:=ic x (show 0 < 18446744073709551616 by decide);have hym:=ic y (show 0 < 18446744073709551616 by decide);have HXM:=Qh (fun h:x < 18446744073709551616=>qY h);have HYM:=Qh (fun h:y < 18446744073709551616=>qY h);rw[← hone]at e1;rw[← JL]at e2;generalize x % 18446744073709551616=xm at *;generalize y % 18446744073709551616=ym at *;have afk:=Qh hone;have afl:=Qh JL;clear hone JL;generalize hlx:(aT x).length=lx at *;generalize hly:(aT y).length=ly at *;clear hlx hly;obtain⟨y0,y1,y2,y3,y4,y5⟩:=TA.o.three;obtain⟨r0,r1,r2,r3⟩:=TR.o.two;go_wp2_with fail;refine aI e1 ?_;rintro e w4 ⟨rfl,rfl⟩;go_wp2_with fail;refine aI e2 ?_;rintro e w4 ⟨rfl,rfl⟩;clear e1 e2;have nx1:(xm:Int)≤18446744073709551615:=ae;have ny1:(ym:Int)≤18446744073709551615:=ae;clear hxm hym;by_cases jM:9223372036854775807 < y∨9223372036854775808 < x∨(x=9223372036854775808∧neg=false)
  ·have aiy:=Qh (show F=none by rw[JK.o,if_pos jM]);cases one
   ·clear jM;exact KS
   ·have Af:x < 18446744073709551616:=Fs afk.o.symm;have hxx:=HXM.o Af;cases two
    ·clear jM hxx Af;exact KS
    ·have Cm:y < 18446744073709551616:=Fs afl.o.symm;have Na:=HYM.o Cm;by_cases c3:9223372036854775807 < y
     ·have k3:9223372036854775807 < (ym:Int):=ae;clear jM hxx Na Af Cm c3;exact KS
     ·have k3:¬ 9223372036854775807 < (ym:Int):=ae;by_cases c4:9223372036854775808 < x
      ·have k4:9223372036854775808 < (xm:Int):=ae;clear jM hxx Na Af Cm c3 c4;exact KS
      ·have k4:¬ 9223372036854775808 < (xm:Int):=ae;obtain⟨aot,rfl⟩:x=9223372036854775808∧neg=false:=by
        rcases jM with h|h|h
        ·omega
        ·omega
        ·exact h
       have k5:((xm:Int) == 9223372036854775808)=true:=Dc;clear jM hxx Na Af Cm c3 c4 aot;exact KS
  ·have XA:=Qh (show F=some (fh neg x,(y:Int))by rw[JK.o,if_neg jM]);have Af:x < 18446744073709551616:=ae;have Cm:y < 18446744073709551616:=ae;have hxx:=HXM.o Af;have Na:=HYM.o Cm;subst hxx Na;have o1:one=true:=(by rw[afk.o];exact fy Af);have o2:two=true:=(by rw[afl.o];exact fy Cm);subst o1 o2;have k3:¬ 9223372036854775807 < (ym:Int):=ae;have k4:¬ 9223372036854775808 < (xm:Int):=ae;have Gr:=Qh (aos xm ae);cases neg
   ·have k5:((xm:Int) == 9223372036854775808)=false:=by
     refine C9 ?_;intro h;exact jM (.inr (.inr ⟨ae,rfl⟩))
    have k6:(xm:Int)≤9223372036854775807:=(by rw[gT]at k5;omega);clear jM Af Cm;go_wp2_with fail;exact bB (v:=.tuple #[.agg #[.int .i64 xm,.int .i64 ym],.int .i64 0]) Vc rfl ⟨by rw[XA.o];rfl,(bT.o.setCell aB _).setCell aB _⟩
   ·clear jM Af Cm;by_cases c5:(xm:Int)=9223372036854775808
    ·have k5:((xm:Int) == 9223372036854775808)=true:=(by rw[dZ];exact c5);clear c5;go_wp2_with fail;exact bB (v:=.tuple #[.agg #[.int .i64 (wrap64 (-(wrap64 (xm:Int)))),.int .i64 ym],.int .i64 0]) Vc rfl ⟨by rw[Gr.o,XA.o];rfl,(bT.o.setCell aB _).setCell aB _⟩
    ·have k5:((xm:Int) == 9223372036854775808)=false:=(by rw[gT];exact c5);have k6:(xm:Int)≤9223372036854775807:=ae;clear c5;go_wp2_with fail;exact bB (v:=.tuple #[.agg #[.int .i64 (-(xm:Int)),.int .i64 ym],.int .i64 0]) Vc rfl ⟨by rw[XA.o];rfl,(bT.o.setCell aB _).setCell aB _⟩
theorem ai.set {w:World} {k:Nat} {cs:Array Value} (h:ai w k cs) (j:Nat) (v:Value):ai (w.setCell ⟨k,j,none⟩ v) k (cs.setIfInBounds j v):=by
 obtain⟨T,h⟩:=h;refine⟨T,?_⟩;exact Pd
theorem aoG (x:fH) (w:World) (cs:Array Value) (hx:FY w x cs.toList) (hr:x.names.length*16≤140737488355328) :
  Calls prog 39 #[.agg cs] w fun e w'=>∃ C:Array Value,e=.returned (.agg C)∧XE w' x C.toList∧Below w.heap.size w w':=by
 obtain⟨a,cap,iu,hs⟩:=hx;obtain rfl:cs=x.cells (.slice a x.names.length cap):=eA.1 iu;clear iu;have e0:=fH.nO x (.slice a x.names.length cap);have e2:=fH.xV x (.slice a x.names.length cap);refine aY (fH.zX x (.slice a x.names.length cap)) (fH.cells_one x) (fH.nO x) ?_;intro ES EO EZ;have e3:∀ h,(x.cells (.slice a x.names.length cap))[2]'h=.slice a x.names.length cap:=fun _=>rfl
 have c:=fun W hW=>adL x.names x.names.length rfl a cap W hW hr
 generalize x.cells (.slice a x.names.length cap)=C at *;obtain⟨zb,zz,gw⟩:=rj w C tI 29 29;have hu:=underlying29;have hb3:=gw.2;go_enter func39,ntmps39
 go_wp2_with fail;refine jH (c _ (hs.keep hb3 af)) ?_;intro w1 v ho hb
 obtain⟨a2,c2,rfl,-⟩:=ho.shape;have hb4:=aH hb3 hb af;have t3:=zb.keep hb af;have t2:=zz.keep hb af;have T3:=Qh ((t3.put 2 (.slice a2 x.names.length c2)));have T2:=Qh (t2.other (a:=⟨w.heap.size,2,none⟩) (show w.heap.size≠w.heap.size+1 by omega) (.slice a2 x.names.length c2));rw[ES.o]at T3;have f0:=t3.cell 2 _ e2;have f1:=t3.free 2;have q0:=EZ.o (.slice a2 x.names.length c2);have q1:=EO.o a2 x.names.length c2;refine aY ho hb4 hb.size ?_;intro HO fe gD;generalize hD:x.cells (.slice a2 x.names.length c2)=D at *;have HD:=Qh hD;clear hD;clear t3 t2 hb hb3 hb4 c zb zz gw hs ho;go_wp2_with (first|(refine fG T3.o 29 (.tmp 1) hu Im ?_)|(refine iC T2.o 29 (.tmp 2) (.tmp 7) Im zr q1 ?_))
 have hrun:=fo (T2.o.row D) 29 _ hu rfl Im;have hb5:=fe.o;have hz:w.heap.size+1+1≤w1.heap.size:=bQ aB gD.o;refine bB (v:=.agg D) (by simp[results,results39,Act.put,asAddr,hrun]) rfl ⟨D,rfl,⟨_,by rw[← HD.o],?_⟩,?_⟩
 ·exact aa7
 ·exact ack
theorem aoH (x:bK) (w:World) (cs:Array Value) (hx:su w x cs.toList) (hr:x.rows.length*24≤140737488355328) :
  Calls prog 41 #[.agg cs] w fun e w'=>∃ C:Array Value,e=.returned (.agg C)∧DR w' x C.toList∧Below w.heap.size w w':=by
 obtain⟨a,cap,iu,hs⟩:=hx;obtain rfl:cs=x.cells (.slice a x.rows.length cap):=eA.1 iu;clear iu;have e0:=bK.nO x (.slice a x.rows.length cap);have e2:=bK.xV x (.slice a x.rows.length cap);refine aY (bK.zX x (.slice a x.rows.length cap)) (bK.cells_one x) (bK.nO x) ?_;intro ES EO EZ;have e3:∀ h,(x.cells (.slice a x.rows.length cap))[5]'h=.slice a x.rows.length cap:=fun _=>rfl
 have c:=fun W hW=>akB x.rows x.rows.length rfl a cap W hW hr
 generalize x.cells (.slice a x.rows.length cap)=C at *;obtain⟨zb,zz,gw⟩:=rj w C iD 43 43;have hu:=underlying43;have hb3:=gw.2;go_enter func41,ntmps41
 go_wp2_with fail;refine jH (c _ (hs.keep hb3 af)) ?_;intro w1 v ho hb
 obtain⟨a2,c2,rfl,-⟩:=ho.shape;have hb4:=aH hb3 hb af;have t3:=zb.keep hb af;have t2:=zz.keep hb af;have T3:=Qh ((t3.put 5 (.slice a2 x.rows.length c2)));have T2:=Qh (t2.other (a:=⟨w.heap.size,5,none⟩) (show w.heap.size≠w.heap.size+1 by omega) (.slice a2 x.rows.length c2));rw[ES.o]at T3;have f0:=t3.cell 5 _ e2;have f1:=t3.free 5;have q0:=EZ.o (.slice a2 x.rows.length c2);have q1:=EO.o a2 x.rows.length c2;refine aY ho hb4 hb.size ?_;intro HO fe gD;generalize hD:x.cells (.slice a2 x.rows.length c2)=D at *;have HD:=Qh hD;clear hD;clear t3 t2 hb hb3 hb4 c zb zz gw hs ho;go_wp2_with (first|(refine fG T3.o 43 (.tmp 1) hu Il ?_)|(refine iC T2.o 43 (.tmp 2) (.tmp 7) Il zr q1 ?_))
 have hrun:=fo (T2.o.row D) 43 _ hu rfl Il;have hb5:=fe.o;have hz:w.heap.size+1+1≤w1.heap.size:=bQ aB gD.o;refine bB (v:=.agg D) (by simp[results,results41,Act.put,asAddr,hrun]) rfl ⟨D,rfl,⟨_,by rw[← HD.o],?_⟩,?_⟩
 ·exact aa7
 ·exact ack
end Go.Proofs.YtfflljgnpfldfaaGreatDoor
