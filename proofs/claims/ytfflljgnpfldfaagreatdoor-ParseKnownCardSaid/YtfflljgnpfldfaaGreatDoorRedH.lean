/-
  The reference's reader: rows of a table, comments: contracts.
-/
import Derived.Test.YtfflljgnpfldfaaGreatDoorRedE
import Derived.Test.YtfflljgnpfldfaaGreatDoorParF
set_option linter.all false
set_option maxHeartbeats 128000000
set_option maxRecDepth 100000
namespace Go.Proofs.YtfflljgnpfldfaaGreatDoor
open Go.Proofs.Tryz
open Go.RowKit
theorem ar7 (T:List aw) (gZ:mD T) (st:aF) (kr:Nat) (w:World) (h:bD w kr T st) :
  Calls prog 159 #[.pointer (some ⟨kr,0,none⟩)] w fun e w'=>wM kr w T (.tuple #[.bool ((st.run [] uP).1[1]? == some 48),.bool ((st.run [] uP).1[2]? == some 45)]) (st.run [] uP).2 e w':=by
 have bm:=gZ.b.1.pos;have hlen:=gZ.b.2.2;have cf:=fun W hW=>EI T gZ st kr W hW
 obtain⟨R,hR⟩:∃ R,R=st.run [] uP:=⟨_,rfl⟩
 rw[← hR];have HR:=Qh h;have hf0:=pC;have jk:=tU;cases st with
 | bad no l c=>
  have HV:=Qh (show R=([],.bad no l c)from hR);obtain⟨h0,i,hi,hr⟩:=h;have cn:=nw T bm hlen i no l c kr w hi hr;unfold eG bZ at cn;generalize rI T i=t at *;have e0:=bN h0;have nX:=Qh hr;clear hR hr;go_enter func159,ntmps159
  go_wp2_with fail;refine zk cn ?_;intro w1 hb HO;obtain⟨v,hc⟩:=(nX.o.keep hb).cells;have f2:=hc.cell 2 (.int .i64 no) rfl;have cF:=cf w1 (HR.o.keep hb);clear cn hb hc cf;go_wp2_with fail;refine OY cF ?_;clear cF;intro w2 aU HQ;go_wp2_with fail;go_ret2
  rw[HV.o];exact⟨rfl,aU.o,HQ.o⟩
 | ok ts=>
  obtain⟨i,hi,rfl,hr⟩:=h;have cn:=fun W hW=>nw T bm hlen i 0 0 0 kr W (gV hi) hW
  rw[pQ hi]at cn;unfold eG bZ at cn;have nX:=Qh hr;have cN:=cn w hr;clear hr;by_cases hk:(ax (T.drop i)).kind=4;case neg=>
   have HV:=Qh (show R=([],(aF.ok (T.drop i)).form)by
    rw[hR];unfold aF.run uP;simp only;rw[if_neg (fun h=>hk h.1)];rfl)
   have e0:=bN hk;clear hR;go_enter func159,ntmps159
   go_wp2_with fail;refine zk cN ?_;intro w1 hb HO;have dY:=Qh (nX.o.keep hb);refine wV dY.o.cells ?_;intro v hc f2;have pN:=cn w1 dY.o;generalize (ax (T.drop i)).kind=K at *;clear cN hb cn hc;go_wp2_with fail;clear f2;exact abm pN
  case pos=>
   have hRv:R=if (ax (T.drop i)).text.length=3 then ((ax (T.drop i)).text,.ok (T.drop i).tail) else ([],(aF.ok (T.drop i)).form):=by
    rw[hR];unfold aF.run uP;simp only;by_cases h3:(ax (T.drop i)).text.length=3
    ·rw[if_pos ⟨hk,h3⟩,if_pos h3]
    ·rw[if_neg (fun h=>h3 h.2),if_neg h3];rfl
   have gC:=Qh hRv;have HST:=Qh (fun W (hW:eV W kr T i 0 0 0)=>hW.step gZ hi qp);clear hR hRv;rw[hk]at cN cn;generalize (ax (T.drop i)).text=X at *;go_enter func159,ntmps159
   go_wp2_with fail;refine zk cN ?_;intro w1 hb HO;have dY:=Qh (nX.o.keep hb);refine wV dY.o.cells ?_;intro v hc f2;have pN:=cn w1 dY.o;clear cN hb cn hc hk;by_cases h3:X.length=3
   ·have HV:=Qh (show R=(X,.ok (T.drop i).tail)by rw[gC.o,if_pos h3]);obtain⟨q0,q1,q2,rfl⟩:∃ q0 q1 q2:UInt8,X=[q0,q1,q2]:=agU h3;clear h3 cf;go_wp2_with fail;refine Lg pN ?_;intro w2 hb aU gi;refine zf gi.o.cells ?_;intro v2 hc f1 r1;have HN:=Qh (HST.o _ gi.o);clear hc hb pN f2;go_wp2_with fail;refine xt (S:=(fun (_:World)=>True)) aj trivial (fun hHeld=>?_);refine hT 0 ?_;refine aL ?_
    refine hT 1 ?_;refine aL ?_
    refine hT 2 ?_;refine aL ?_
    refine hT 3 ?_;refine aL ?_
    refine hT 4 ?_;refine aL ?_
    refine hT 5 ?_;refine aL ?_
    refine hT 6 ?_;refine aL ?_
    refine hT 7 ?_;refine wS ?_
    go_wp2_with fail;go_ret2
    rw[HV.o];refine⟨?_,(aU.o.set 1 _).trans (aA.of_below kr (aC _ _).drew),HN.o.keep (aC _ _).drew⟩;have hx1:(((((⟨#[q0,q1,q2]⟩:ByteArray)[1]' vI).toNat:Int) == 48))=(([q0,q1,q2]:List UInt8)[1]? == some 48):=SH q1 48;have hx2:(((((⟨#[q0,q1,q2]⟩:ByteArray)[2]' vJ).toNat:Int) == 45))=(([q0,q1,q2]:List UInt8)[2]? == some 45):=SH q2 45;rw[← hx1,← hx2];rfl
   ·have HV:=Qh (show R=([],(aF.ok (T.drop i)).form)by rw[gC.o,if_neg h3]);have h3b:((X.length:Int) == 3)=false:=bN ae;have h3i:¬ ((X.length:Int)=3):=ae;go_wp2_with fail;clear f2;exact abm pN
theorem ar8 (s:List UInt8) (h:∃ x,nd s=some x):(∃ n d,Gx s=.tuple #[.agg #[.int .i64 n,.int .i64 d],.int .i64 0]∧Az s=(some (n,d),0)) ∨
  (∃ (x y m:Int),m≠0∧Gx s=.tuple #[.agg #[.int .i64 x,.int .i64 y],.int .i64 m]∧Az s=(none,m)):=by
 obtain⟨⟨neg,d,p⟩,hr⟩:=h;unfold Gx Az;by_cases h:96 < s.length
 ·rw[if_pos h,if_pos h];exact .inr ⟨0,0,3,ah,rfl,rfl⟩
 ·rw[if_neg h,if_neg h,hr];unfold XR;simp only;cases nU neg (cX d) p with
  | none=>exact .inr ⟨0,0,9,ah,rfl,rfl⟩
  | some y=>
   obtain⟨n,d'⟩:=y;exact .inl ⟨n,d',rfl,rfl⟩
theorem Tj (T:List aw) (hT:mD T) (st:aF) (kr:Nat) (w:World) (h:bD w kr T st) :
  Calls prog 160 #[.pointer (some ⟨kr,0,none⟩)] w fun e w'=>wM kr w T (.agg #[.int .i64 (st.run (0,0) mZ).1.1,.int .i64 (st.run (0,0) mZ).1.2]) (st.run (0,0) mZ).2 e w':=by
 have bm:=hT.b.1.pos;have hlen:=hT.b.2.2;have hb0:Below w.heap.size w (w.alloc (.cells #[.int .i64 0,.int .i64 0] 61)):=(aC _ _).alloc af _;have dG:=h.lt;have h:=h.keep hb0;have cf:=fun W hW=>EI T hT st kr W hW
 obtain⟨R,hR⟩:∃ R,R=st.run (0,0) mZ:=⟨_,rfl⟩
 rw[← hR];refine fQ h (aA.of_below kr hb0) (dK w (.cells #[.int .i64 0,.int .i64 0] 61)) pC ?_;intro HR N7 HZ hf0;have jk:=tU;have hu:=underlying61;clear hb0;cases st with
 | bad no l c=>
  have HV:=Qh (show R=((0,0),.bad no l c)from hR);refine Lp h ?_;intro h0 i hi hr v hc f2 e0;have cF:=cf _ HR.o;clear hR hr hc cf;go_enter func160,ntmps160
  go_wp2_with fail;refine dF cF ?_;intro w2 ho hq;have aU:=Qh (N7.o.trans ho);have HQ:=Qh hq;have bz:ai w2 w.heap.size #[.int .i64 0,.int .i64 0]:=⟨_,eJ HZ.o ae ho⟩
  clear cF ho hq;obtain⟨z0,z1,y0,y1⟩:=bz.two;exact aaV
 | ok ts=>
  obtain⟨i,hi,rfl,hr⟩:=h;refine wV hr.cells ?_;intro v hc f2;have cn:=fun W hW=>nw T bm hlen i 0 0 0 kr W (gV hi) hW
  rw[pQ hi]at cn;unfold eG bZ at cn;have nX:=Qh hr;have cN:=cn _ hr;have AK:=(hT.b.drop hi).head;clear hr hc;by_cases hk:(ax (T.drop i)).kind=2;case neg=>
   have HV:=Qh (show R=((0,0),(aF.ok (T.drop i)).form)by
    rw[hR];unfold aF.run mZ;simp only;rw[if_neg hk];rfl)
   have e0:=bN hk;clear hR cn;generalize (ax (T.drop i)).kind=K at *;go_enter func160,ntmps160
   go_wp2_with fail;refine aQ cN ?_;intro w1 hb;have HO:=Qh (N7.o.trans (aA.of_below kr hb));have k9:=Qh (bF HZ.o hb);have cF:=cf w1 (HR.o.keep hb);clear cN hb cf f2;go_wp2_with fail;refine dF cF ?_;intro w2 ho hq;have aU:=Qh (HO.o.trans ho);have HQ:=Qh hq;have bz:ai w2 w.heap.size #[.int .i64 0,.int .i64 0]:=⟨_,eJ k9.o ae ho⟩
   clear cF ho hq;obtain⟨z0,z1,y0,y1⟩:=bz.two;exact aaV
  case pos=>
   have ep:=(hT.k _ (gU hi)).2.2 (by rw[← head_drop hi];exact hk);rw[← head_drop hi]at ep;have hRv:R=match Az (ax (T.drop i)).text with|(some x,_)=>(x,.ok (T.drop i).tail)|(none,m)=>((0,0),(aF.ok (T.drop i)).ko m):=by
    rw[hR];unfold aF.run mZ;simp only;rw[if_pos hk];cases Az (ax (T.drop i)).text with
    | mk a b=>
     cases a<;>rfl
   have gC:=Qh hRv;have HST:=Qh (fun W (hW:eV W kr T i 0 0 0)=>hW.step hT hi qp);have cq:=fun W=>aph (ax (T.drop i)).text ae W
   have hfc:=ar8 _ ep;clear hR hRv AK ep;rw[hk]at cN;generalize (ax (T.drop i)).text=X at *;go_enter func160,ntmps160
   go_wp2_with fail;refine aQ cN ?_;intro w1 hb;refine aY (N7.o.trans (aA.of_below kr hb)) (bF HZ.o hb) (nX.o.keep hb) ?_;intro HO k9 dY;have pN:=cn w1 dY.o;clear cN hb cn f2 cf;go_wp2_with fail;refine aQ pN ?_;intro w2 hb;refine fQ (HO.o.trans (aA.of_below kr hb)) (bF k9.o hb) (dY.o.keep hb) (cq w2) ?_;intro aU bC gi cQ;clear hb pN hk cq;rcases hfc with ⟨n,d,hw,hfr⟩|⟨x,y,m,hm,hw,hfr⟩
   ·have HV:=Qh (show R=((n,d),.ok (T.drop i).tail)by rw[gC.o,hfr]);rw[hw]at cQ;clear hw hfr;go_wp2_with fail;refine aQ cQ ?_;intro w3 hb;have hb4:Below w3.heap.size w3 (w3.alloc (.cells #[.int .i64 n,.int .i64 d] 61)):=(aC _ _).alloc af _;refine aY ((aU.o.trans (aA.of_below kr hb)).trans (aA.of_below kr hb4)) (bF (bF bC.o hb) hb4) ((gi.o.keep hb).keep hb4) ?_;intro lZ zm jN;have Pq:=Qh (HST.o _ jN.o);have hk3:w.heap.size < w3.heap.size:=(Array.getElem?_eq_some_iff.1 (bF bC.o hb)).1;refine zf jN.o.cells ?_;intro v3 hc f1 r1;have b3:=ai.new w3 #[.int .i64 n,.int .i64 d] 61;clear cQ hb hb4 hc;go_upto_region 5 with (refine eX (Z:=#[.int .i64 0,.int .i64 0]) (cs:=#[.int .i64 n,.int .i64 d]) 61 (.tmp 3) (.tmp 24) SD rfl rfl ?_)
    generalize w3.heap.size=k3 at *;generalize w3.alloc (.cells #[.int .i64 n,.int .i64 d] 61)=W4 at *;have bz:ai (W4.setCell ⟨kr,1,none⟩ (.int .i64 ((i:Int)+1))) w.heap.size #[.int .i64 0,.int .i64 0]:=⟨_,dH zm.o (show w.heap.size≠kr by omega) 1 _⟩
    have b4:ai (W4.setCell ⟨kr,1,none⟩ (.int .i64 ((i:Int)+1))) k3 #[.int .i64 n,.int .i64 d]:=b3.other (a:=⟨kr,1,none⟩) (show kr≠k3 by omega) _;have iV:=Qh (lZ.o.set 1 (.int .i64 ((i:Int)+1)));go_upto_region 9 with fail
    generalize W4.setCell ⟨kr,1,none⟩ (.int .i64 ((i:Int)+1))=W5 at *;obtain⟨z0,z1,y0,y1⟩:=bz.two;obtain⟨q0,q1,-,-⟩:=b4.two;have z1':∀ x,(W5.setCell ⟨w.heap.size,0,none⟩ x).cell? ⟨w.heap.size,1,none⟩=some (.int .i64 0):=fun x=>(bz.put 0 x).cell 1 _ rfl
    have y1':∀ x,(W5.setCell ⟨w.heap.size,0,none⟩ x).frozen? ⟨w.heap.size,1,none⟩=false:=fun x=>(bz.put 0 x).free 1
    clear f1 r1;go_wp2_with fail;refine bB (v:=.agg #[.int .i64 n,.int .i64 d]) (by simp[results,results160,go_sem,z0,z1]) rfl ?_;rw[HV.o];exact⟨rfl,aA.new (aA.new iV.o _ af 0 _) _ af 1 _,(Pq.o.set dG 0 _).set dG 1 _⟩
   ·have HV:=Qh (show R=((0,0),(aF.ok (T.drop i)).ko m)by rw[gC.o,hfr]);rw[hw]at cQ;have em:=bN hm;clear hw hfr;go_wp2_with fail;refine aQ cQ ?_;intro w3 hb;have hb4:Below w3.heap.size w3 (w3.alloc (.cells #[.int .i64 x,.int .i64 y] 61)):=(aC _ _).alloc af _;refine aY ((aU.o.trans (aA.of_below kr hb)).trans (aA.of_below kr hb4)) (bF (bF bC.o hb) hb4) ((gi.o.keep hb).keep hb4) ?_;intro lZ zm jN;have cW:=Hc m hm T hT (.ok (T.drop i)) kr _ (jN.o.AY hi);clear cQ hb hb4;go_upto_region 5 with (refine eX (Z:=#[.int .i64 0,.int .i64 0]) (cs:=#[.int .i64 x,.int .i64 y]) 61 (.tmp 3) (.tmp 24) SD rfl rfl ?_)
    generalize w3.alloc (.cells #[.int .i64 x,.int .i64 y] 61)=W4 at *;go_wp2_with fail;refine dF cW ?_;intro w5 ho hq;have iV:=Qh (lZ.o.trans ho);have HQ:=Qh hq;have bz:ai w5 w.heap.size #[.int .i64 0,.int .i64 0]:=⟨_,eJ zm.o ae ho⟩
    clear cW ho hq;obtain⟨z0,z1,y0,y1⟩:=bz.two;have z1':∀ x,(w5.setCell ⟨w.heap.size,0,none⟩ x).cell? ⟨w.heap.size,1,none⟩=some (.int .i64 0):=fun x=>(bz.put 0 x).cell 1 _ rfl
    have y1':∀ x,(w5.setCell ⟨w.heap.size,0,none⟩ x).frozen? ⟨w.heap.size,1,none⟩=false:=fun x=>(bz.put 0 x).free 1
    go_wp2_with fail;refine bB (v:=.agg #[.int .i64 0,.int .i64 0]) (by simp[results,results160,go_sem,z0,z1]) rfl ?_;rw[HV.o];exact⟨rfl,aA.new (aA.new iV.o _ af 0 _) _ af 1 _,(HQ.o.set dG 0 _).set dG 1 _⟩
theorem EH {α:Type} {ts aJ:List aw} {d:α} {p:List aw→PR α} (h:((aF.ok ts).run d p).2=.ok aJ):∃ x,p ts=.ok x aJ:=by
 unfold aF.run at h;simp only at h;cases hp:p ts with
 | ok y t=>
  rw[hp]at h;cases h
  exact⟨y,rfl⟩
 | bad n l c=>
  rw[hp]at h;cases h
def qh (n:Nat) (ts:List aw):PR (Int×List UInt8):=match qN (ax ts).text with
 | none=>eY 8 ts
 | some v=>if n=256 then eY 5 ts else (dJ 3 ts.tail).bind fun x aJ=>.ok (v,x.text) aJ
theorem ahI (f:Nat) (l:List (Int×List UInt8)) (ts:List aw):nP (f+1) l ts=if (ax ts).kind=2 then (qh l.length ts).bind fun x aJ=>nP f (l++[x]) aJ else .ok l ts:=by
 conv=>lhs;unfold nP
 unfold qh;by_cases hk:(ax ts).kind=2
 ·rw[if_pos hk,if_pos hk];cases qN (ax ts).text with
  | none=>rfl
  | some v=>
   simp only;by_cases h:l.length=256
   ·rw[if_pos h,if_pos h];rfl
   ·rw[if_neg h,if_neg h];cases dJ 3 ts.tail<;>rfl
 ·rw[if_neg hk,if_neg hk]
def Tk (w:World) (kr:Nat):Nat:=match w.heap[kr]? with
 | some (Obj.cells C _ _)=>(match (C[1]?:Option Value)with
  | some (Value.int _ n)=>n.toNat
  | _=>0)
 | _=>0
theorem eV.idx {w:World} {kr:Nat} {T:List aw} {i:Nat} {no l c:Int} (h:eV w kr T i no l c):Tk w kr=i:=by
 obtain⟨a,cap,h1,-⟩:=h;unfold Tk;rw[h1];show((i:Nat):Int).toNat=i;omega
theorem eV.cell0 {w:World} {kr:Nat} {T:List aw} {i:Nat} {no l c:Int} (h:eV w kr T i no l c):∃ a cap,w.cell? ⟨kr,0,none⟩=some (.slice a T.length cap):=by
 obtain⟨a,cap,h1,-⟩:=h;exact⟨a,cap,ai.cell ⟨_,h1⟩ 0 _ rfl⟩
theorem bD.cell0 {w:World} {kr:Nat} {T:List aw} {st:aF} (h:bD w kr T st):∃ a cap,w.cell? ⟨kr,0,none⟩=some (.slice a T.length cap):=by
 cases st with
 | ok ts=>obtain⟨i,h1,h2,h3⟩:=h;exact h3.cell0
 | bad n l c=>obtain⟨h0,i,h1,h3⟩:=h;exact h3.cell0
def CB (f' f:Nat) (ts:List aw):PR Unit:=xY f' (pg f ts)
theorem ahJ {st:aF} {f:Nat} (hf:∀ ts,st=.ok ts→1≤f) (h:∀ ts,st=.ok ts→dt [67,77,95] ts=false):(st.run () (qD f)).2=st:=by
 cases st with
 | bad n l c=>rfl
 | ok ts=>
  have h1:=hf ts rfl;have h2:=h ts rfl;obtain⟨f',rfl⟩:∃ f',f=f' + 1:=⟨f - 1,ae⟩
  refine nD ?_;rw[Mv,h2];rfl
theorem ar9 {ts:List aw} {f:Nat} (h:dt [67,77,95] ts=true):((aF.ok ts).run () (qD (f+1))).2=((aF.ok ts.tail).run () (CB f ts.tail.length)).2:=by
 refine nD ?_;rw[Mv,h];rfl
theorem ahK {ts:List aw} {f' f:Nat} (h:dt [59] ts=true∨(ax ts).kind=0):((aF.ok ts).run () (CB f' (f+1))).2=(((aF.ok ts).run eL (cj [59])).2.run () (qD f')).2:=by
 refine nD ?_;unfold CB pg;rcases h with h|h
 ·rw[if_pos h];unfold xY;simp only;unfold cj;rw[if_pos h]
 ·have hs:dt [59] ts=false:=by
   cases hs:dt [59] ts with
   | false=>rfl
   | true=>exact absurd h (mY hs)
  have hn:dJ (ax ts).kind ts=.bad (lM ts) (ax ts).line (ax ts).ak:=by
   unfold dJ;rw[if_neg (fun h'=>h'.2 h)];rfl
  rw[hs,hn];unfold cj;rw[hs];rfl
theorem asa {ts:List aw} {f' f:Nat} (h:dt [59] ts=false) (hk:(ax ts).kind≠0):((aF.ok ts).run () (CB f' (f+1))).2=((aF.ok ts.tail).run () (CB f' f)).2:=by
 refine nD ?_;unfold CB;rw[show pg (f+1) ts=pg f ts.tail by
  conv=>lhs;unfold pg
  rw[h,YI hk];rfl]
theorem KH (T:List aw) (hT:mD T) (st:aF) (kr:Nat) (w:World) (h:bD w kr T st) :
  Calls prog 45 #[.pointer (some ⟨kr,0,none⟩)] w fun e w'=>wM kr w T (.tuple #[]) (st.run () dQ).2 e w':=by
 obtain⟨R,hR⟩:∃ R,R=(st.run () dQ).2:=⟨_,rfl⟩
 rw[← hR];have hlen:=hT.b.2.2;have bm:=hT.b.1.pos;obtain⟨f0,hf0,hR2⟩:∃ f,(∀ ts,st=.ok ts→ts.length≤f∧ts.length≤T.length)∧R=(st.run () (qD f)).2:=by
  cases st with
  | bad n l c=>exact⟨0,(fun ts e=>sW),hR⟩
  | ok ts=>
   obtain⟨i,hi,rfl,-⟩:=h;exact⟨(T.drop i).length,(fun ts e=>by cases e;exact⟨af,Ih⟩),hR⟩
 have HR:=Qh hR2;have HF:=Qh hf0;have htf:=pC;have H0:=Qh h;clear hR hR2 h hf0;go_enter func45,ntmps45
 go_wp2_with fail;go_loopw [2] (fun kv wr=>∃ (k f:Nat) (s1:aF),kv=.int .i64 (k:Nat)∧k≤T.length∧(∀ ts,s1=.ok ts→ts.length≤f∧k+ts.length≤T.length)∧R=(s1.run () (qD f)).2∧bD wr kr T s1∧aA kr w wr) (fun kv _=>T.length - (intOf kv).toNat)
 case atStart=>exact⟨0,f0,st,rfl,bV _,(fun ts e=>⟨(HF.o ts e).1,by have:=(HF.o ts e).2;omega⟩),HR.o,H0.o,aA.of_below kr (aC _ _)⟩
 case round=>
  obtain⟨k,f,s1,rfl,hk,hf,hr1,fL,ho1⟩:=hrel;obtain⟨a0,avC,hc0⟩:=fL.cell0;refine lC ho1 fL hf hr1 ?_;intro fM iF gP dY;have fk:∀ ts,s1=.ok ts→1≤ts.length:=fun ts e=>by
   exact O2
  clear fL ho1 hf hr1;by_cases pZ:(k:Int) < T.length
  ·have cs:=EJ 1 [67,77,95] T hT s1 kr wr iF.o;cases hS:s1.sees 1 [67,77,95]with
   | false=>
    have HV:=Qh (show R=s1 by
     rw[dY.o];refine ahJ (fun ts e=>bQ (fk ts e) (gP.o ts e).1) (fun ts e=>?_);subst e;obtain⟨i,hi,rfl,-⟩:=iF.o;rw[← sL hT hi (k:=1) ⟨67,[77,95],rfl,.inl ⟨rfl,ah⟩⟩];exact hS)
    rw[hS]at cs;clear hS fk;go_wp2_with fail;refine aQ cs ?_;intro w2 hb;have HO:=Qh (fM.o.trans (aA.of_below kr hb));have HP:=Qh (iF.o.keep hb);clear cs hb;go_wp2_with fail;refine⟨rfl,.tuple #[],by simp[results,results45],rfl,HO.o,?_⟩;rw[HV.o];exact HP.o
   | true=>
    cases s1 with
    | bad n l c=>cases hS
    | ok ts=>
     have ia:=iF.o;obtain⟨i,hi,rfl,ud⟩:=ia;rw[hS]at cs;rw[sL hT hi (k:=1) ⟨67,[77,95],rfl,.inl ⟨rfl,ah⟩⟩]at hS;obtain⟨jk,hf2⟩:=gP.o _ rfl;have gA:=fk _ rfl;obtain⟨f',rfl⟩:∃ f',f=f' + 1:=⟨f - 1,ae⟩
     refine aY (show R=((aF.ok (T.drop i).tail).run () (CB f' (T.drop i).tail.length)).2 by rw[dY.o,ar9 hS]) ud (mY hS) ?_;intro HV nX HK;have hlt:(T.drop i).tail.length+1≤(T.drop i).length:=vF;clear hS fk ud;go_wp2_with fail;refine aQ cs ?_;intro w2 hb;have hr2:=nX.o.keep hb;have HST:=Qh (hr2.step hT hi HK.o);refine zf hr2.cells ?_;intro v2 hc2 f1 r1;have HO:=Qh ((fM.o.trans (aA.of_below kr hb)).set 1 (.int .i64 ((i:Int)+1)));generalize (T.drop i).tail=ki at *;generalize (T.drop i).length=n2 at *;clear cs hb hr2 hc2 hc0;go_wp2_with fail;clear f1 r1;generalize w2.setCell ⟨kr,1,none⟩ (.int .i64 ((i:Int)+1))=W3 at *;go_loopw [] (fun ww=>∃ (dD:List aw) (f3:Nat),dD.length≤f3∧dD.length≤ki.length∧R=((aF.ok dD).run () (CB f' f3)).2∧bD ww kr T (.ok dD)∧aA kr w ww) (fun ww=>T.length - Tk ww kr)
     case atStart=>exact⟨ki,ki.length,af,af,HV.o,HST.o,HO.o⟩
     case round=>
      obtain⟨dD,f3,hf3,hl3,hr3,Kk,NA⟩:=hrel;obtain⟨ww,FO⟩:∃ y,y=wr:=⟨_,rfl⟩
      subst FO;obtain⟨j,hj,rfl,gS⟩:=Kk;have tJ:1≤(T.drop j).length:=Ih;obtain⟨g,rfl⟩:∃ g,f3=g+1:=⟨f3 - 1,ae⟩
      refine aY hr3 NA gS ?_;intro jN lZ C8;obtain⟨v3,hc3⟩:=gS.cells;have c1:=hc3.cell 1 (.int .i64 (j:Nat)) rfl;obtain⟨a3,avD,c0⟩:=gS.cell0;have yl:(j:Int) < T.length:=ae;have hjb:decide ((j:Int) < (T.length:Nat))=true:=fy yl;have Tl:=fun W hW=>nw T bm hlen j 0 0 0 kr W (gV hj) hW
      rw[pQ hj]at Tl;unfold eG bZ at Tl;have csS:=fun W hW=>EJ 4 [59] T hT (aF.ok (T.drop j)) kr W hW
      have hse:=sL hT hj (k:=4) (text:=[59]) ⟨59,[],rfl,.inr ⟨rfl,ah⟩⟩;rw[hse]at csS;have GM:=Qh (fun h=>@mY [59] (T.drop j) h);clear hr3 NA gS hc3 hse;have lN:=fun (x:aW ww)=>Tl x.w (C8.o.keep x.below)
      have lS:=fun (x:aW ww)=>csS x.w ((C8.o.keep x.below).AY hj)
      clear Tl csS;have RN:(ax (T.drop j)).kind=0→R=(((aF.ok (T.drop j)).run eL (cj [59])).2.run () (qD f')).2:=fun h0=>by rw[jN.o,ahK (.inr h0)]
      have Em:=Qh RN;have yQ:=Qh (fun (h:dt [59] (T.drop j)=true)=>show R=(((aF.ok (T.drop j)).run eL (cj [59])).2.run () (qD f')).2 by rw[jN.o,ahK (.inl h)]);have Aq:=Qh (fun (h:dt [59] (T.drop j)=false) (hk:(ax (T.drop j)).kind≠0)=>show R=((aF.ok (T.drop j).tail).run () (CB f' g)).2 by rw[jN.o,asa h hk]);have aad:=Qh (fun W (hW:eV W kr T j 0 0 0) (hk:(ax (T.drop j)).kind≠0)=>hW.step hT hj hk);clear RN jN;generalize dt [59] (T.drop j)=SB at *;by_cases hk0:(ax (T.drop j)).kind=0
      ·have wH:=Qh (Em.o hk0);rw[hk0]at lN;have l0:=fun x:aW ww=>aW.cell c0 x
       have l1:=fun x:aW ww=>aW.cell c1 x
       go_wp2_with fail;refine rL ?_
       repeat (go_big_quiet_step ((first|(go_at_call 47;with_reducible exact aW.made (lN _))|(go_at_call 46;with_reducible exact aW.made (lS _)))))
       clear l0 l1 c0 c1 lN lS;refine UY ?_;intro x ny pq;generalize x.w=W4 at *;have cM:=pI 4 [59] ⟨59,[],rfl,.inr ⟨rfl,ah⟩⟩ T hT (aF.ok (T.drop j)) kr W4 (pq.o.AY hj);go_wp2_with fail;refine dF cM ?_;intro w5 ho hq;have iV:=Qh (ny.o.trans ho);have HQ5:=Qh hq;clear cM ho hq;go_wp2_with fail;go_roundw;case rel=>
        refine⟨k+1,f',((aF.ok (T.drop j)).run eL (cj [59])).2,bL,ae,fun ts e=>?_,wH.o,HQ5.o,iV.o⟩;obtain⟨xx,h2⟩:=EH e;obtain⟨-,-,h3⟩:=qg h2 (hT.b.drop hj);rw[h3,sZ];exact⟨ae,ae⟩
       case measure=>exact bY
      ·have ek:=bN hk0;have ek2:((ax (T.drop j)).kind != 0)=true:=(by rw[bne_iff_ne];exact hk0);cases SB with
       | true=>
        have wH:=Qh (yQ.o Dd);clear yQ Aq Em aad hk0;generalize (ax (T.drop j)).kind=K at *;have l0:=fun x:aW ww=>aW.cell c0 x
        have l1:=fun x:aW ww=>aW.cell c1 x
        go_wp2_with fail;refine rL ?_
        repeat (go_big_quiet_step ((first|(go_at_call 47;with_reducible exact aW.made (lN _))|(go_at_call 46;with_reducible exact aW.made (lS _)))))
        clear l0 l1 c0 c1 lN lS;refine UY ?_;intro x ny pq;generalize x.w=W4 at *;have cM:=pI 4 [59] ⟨59,[],rfl,.inr ⟨rfl,ah⟩⟩ T hT (aF.ok (T.drop j)) kr W4 (pq.o.AY hj);go_wp2_with fail;refine dF cM ?_;intro w5 ho hq;have iV:=Qh (ny.o.trans ho);have HQ5:=Qh hq;clear cM ho hq;go_wp2_with fail;go_roundw;case rel=>
         refine⟨k+1,f',((aF.ok (T.drop j)).run eL (cj [59])).2,bL,ae,fun ts e=>?_,wH.o,HQ5.o,iV.o⟩;obtain⟨xx,h2⟩:=EH e;obtain⟨-,-,h3⟩:=qg h2 (hT.b.drop hj);rw[h3,sZ];exact⟨ae,ae⟩
        case measure=>exact bY
       | false=>
        have wH:=Qh (Aq.o Dd hk0);have asb:=Qh (fun W hW=>aad.o W hW hk0);clear yQ Aq Em aad hk0;generalize (ax (T.drop j)).kind=K at *;have l0:=fun x:aW ww=>aW.cell c0 x
        have l1:=fun x:aW ww=>aW.cell c1 x
        go_wp2_with fail;refine rL ?_
        repeat (go_big_quiet_step ((first|(go_at_call 47;with_reducible exact aW.made (lN _))|(go_at_call 46;with_reducible exact aW.made (lS _)))))
        clear l0 l1 c0 c1 lN lS;refine UY ?_;intro x ny pq;generalize x.w=W4 at *;obtain⟨v4,hc4⟩:=pq.o.cells;have f4:=hc4.cell 1 (.int .i64 (j:Nat)) rfl;have r4:=hc4.free 1;refine aY (asb.o _ pq.o) (show Tk (W4.setCell ⟨kr,1,none⟩ (.int .i64 ((j:Int)+1))) kr=j+1 from (pq.o.next).idx) C8.o.idx ?_;intro HS4 HI4 HIJ;clear hc4;go_wp2_with fail;go_roundw;case rel=>exact⟨(T.drop j).tail,g,vF,vF,wH.o,HS4.o,ny.o.set 1 _⟩
        case measure=>rw[HI4.o,HIJ.o];omega
  ·have HV:=Qh (show R=s1 by
    rw[dY.o];refine ahJ (fun ts e=>bQ (fk ts e) (gP.o ts e).1) (fun ts e=>?_);have h1:=(gP.o ts e).2;have h2:=fk ts e;omega)
   clear fk;go_wp2_with fail;refine⟨rfl,.tuple #[],by simp[results,results45],rfl,fM.o,?_⟩;rw[HV.o];exact iF.o
theorem asc (n:Int) (T:List aw) (hT:mD T) (i:Nat) (hi:i < T.length) (kr:Nat) (w:World) (hr:eV w kr T i 0 0 0) :
  Calls prog 52 #[.pointer (some ⟨kr,0,none⟩),.int .i64 n] w fun e w'=>e=.returned (.tuple #[])∧aA kr w w'∧eV w' kr T i n (ax (T.drop i)).line (ax (T.drop i)).ak:=by
 have bm:=hT.b.1.pos;have hlen:=hT.b.2.2;refine wV hr.cells ?_;intro v hc c2;have r2:=hc.free 2;have hr2:=hr.ahy n;refine aY ((aA.of_below kr (aC w.heap.size w)).set 2 (.int .i64 n)) hr2 (pQ hi) ?_;intro HO HR HD;clear hr hc hr2;go_enter func52,ntmps52
 go_upto_region 2 with fail
 clear c2 r2;generalize w.setCell ⟨kr,2,none⟩ (.int .i64 n)=w1 at *;have cn:=nw T bm hlen i n 0 0 kr w1 (gV hi) HR.o;unfold eG bZ at cn;have hf2:=yF;go_wp2_with fail;refine aQ cn ?_;intro w2 hb;have gi:=Qh (HR.o.keep hb);have aU:=Qh (HO.o.trans (aA.of_below kr hb));obtain⟨v2,hc⟩:=gi.o.cells;rw[HD.o];obtain⟨L,hL⟩:∃ L,L=(ax (T.drop i)).line:=⟨_,rfl⟩
 obtain⟨C,hC⟩:∃ C,C=(ax (T.drop i)).ak:=⟨_,rfl⟩
 rw[← hL,← hC];have NB:=Qh hL;have eB:=Qh hC;clear hL hC;have c3:=hc.cell 3 (.int .i64 0) rfl;have r3:=hc.free 3;have c4:=hc.cell 4 (.int .i64 0) rfl;have r4:=hc.free 4;refine abN ?_;intro d4 s4
 clear cn hb hc HD;go_wp2_with fail;refine⟨rfl,.tuple #[],by simp[results,results52],rfl,(aU.o.set 3 _).set 4 _,?_⟩;rw[← NB.o,← eB.o];exact(gi.o.ahz L).ahA C
theorem ase (n:Int) (T:List aw) (i:Nat) (no l c:Int) (h0:no≠0) (kr:Nat) (w:World) (hr:eV w kr T i no l c) :
  Calls prog 52 #[.pointer (some ⟨kr,0,none⟩),.int .i64 n] w fun e w'=>e=.returned (.tuple #[])∧w' = w:=by
 obtain⟨v,hc⟩:=hr.cells;have c2:=hc.cell 2 (.int .i64 no) rfl;have e0:=bN h0;clear hr hc;go_enter func52,ntmps52
 go_wp2_with fail;exact⟨rfl,.tuple #[],by simp[results,results52],rfl,rfl⟩
theorem asf (n:Nat) (T:List aw) (hT:mD T) (i:Nat) (hi:i < T.length) (hk:(ax (T.drop i)).kind=2) (kr:Nat) (w:World) (h:eV w kr T i 0 0 0) :
  Calls prog 109 #[.pointer (some ⟨kr,0,none⟩),.int .i64 (n:Nat)] w fun e w'=>∃ (z:Int) (tx:List UInt8),e=.returned (.agg #[.int .i64 z,.string ⟨tx.toArray⟩])∧aA kr w w' ∧
   bD w' kr T ((aF.ok (T.drop i)).run (0,[]) (qh n)).2∧(((aF.ok (T.drop i)).run (0,[]) (qh n)).2.isOk→((aF.ok (T.drop i)).run (0,[]) (qh n)).1=(z,tx)):=by
 have bm:=hT.b.1.pos;have hlen:=hT.b.2.2;have AK:=(hT.b.drop hi).head;have hb0:Below w.heap.size w (w.alloc (.cells #[.int .i64 0,.string ⟨#[]⟩] 45)):=(aC _ _).alloc af _;have dG:=h.lt;obtain⟨R,hR⟩:∃ R,R=(aF.ok (T.drop i)).run (0,[]) (qh n):=⟨_,rfl⟩
 rw[← hR];refine fQ (aA.of_below kr hb0) (dK w (.cells #[.int .i64 0,.string ⟨#[]⟩] 45)) (h.keep hb0) tU ?_;intro N7 HZ nX jk;have cn:=nw T bm hlen i 0 0 0 kr _ (gV hi) nX.o;rw[pQ hi]at cn;unfold eG bZ at cn;have cq:=fun W=>ar1 (ax (T.drop i)).text AK W
 rw[asg]at cq;have gA:=((hT.b.drop hi).tail qp).1.pos;rw[tail_drop,e7]at gA;have Aj:i+1 < T.length:=ae;have JJ:qN (ax (T.drop i)).text=none→R=((0,[]),.bad 8 (ax (T.drop i)).line (ax (T.drop i)).ak):=fun e=>by
  rw[hR];unfold aF.run qh;simp only;rw[e];rfl
 have hR5:∀ v,qN (ax (T.drop i)).text=some v→n=256→R=((0,[]),.bad 5 (ax (T.drop i)).line (ax (T.drop i)).ak):=fun v e e5=>by
  rw[hR];unfold aF.run qh;simp only;rw[e];simp only;rw[if_pos e5];rfl
 have hRo:∀ v,qN (ax (T.drop i)).text=some v→n≠256→R.2=((aF.ok (T.drop (i+1))).run eL (dJ 3)).2∧(R.2.isOk→R.1=(v,((aF.ok (T.drop (i+1))).run eL (dJ 3)).1.text)):=fun v e e5=>by
  rw[hR];unfold aF.run qh;simp only;rw[e];simp only;rw[if_neg e5,tail_drop];cases dJ 3 (T.drop (i+1))with
  | ok x t=>exact⟨rfl,fun _=>rfl⟩
  | bad a b c=>exact⟨rfl,fun h=>h.elim⟩
 refine fQ JJ hR5 hRo (fun m W hW=>asc m T hT i hi kr W hW) ?_;intro HRn Gw HRo N8
 clear hR hb0 h JJ hR5 hRo AK;generalize (ax (T.drop i)).line=L at *;generalize (ax (T.drop i)).ak=C at *;generalize (ax (T.drop i)).text=X at *;rw[hk]at cn;go_enter func109,ntmps109
 go_wp2_with fail;refine aQ cn ?_;intro w1 hb;refine aY (N7.o.trans (aA.of_below kr hb)) (bF HZ.o hb) (nX.o.keep hb) ?_;intro HO k9 dY;clear cn hb;go_wp2_with fail;refine jH (cq w1) ?_;intro w2 z hz hb
 refine aY (HO.o.trans (aA.of_below kr hb)) (bF k9.o hb) (dY.o.keep hb) ?_;intro aU bC gi;clear cq hb;cases hI:qN X with
 | none=>
  have HV:=Qh (HRn.o hI);have cW:=N8 8 w2 gi.o;clear hz;go_wp2_with fail;refine dF cW ?_;intro w3 ho hr3;have lZ:=Qh (aU.o.trans ho);have zm:=Qh (eJ bC.o ae ho);have jN:=Qh hr3;have cB:=ase 5 T i 8 L C ah kr w3 hr3;refine zf hr3.cells ?_;intro v3 hc3 f3 r3;have pq:=Qh (show bD (w3.setCell ⟨kr,1,none⟩ (.int .i64 ((i:Int)+1))) kr T (.bad 8 L C)from (hr3.next).aab ae ah);have ny:=Qh (lZ.o.set 1 (.int .i64 ((i:Int)+1)));have pM:=Qh (dH zm.o (show w.heap.size≠kr by omega) 1 (.int .i64 ((i:Int)+1)));clear cW ho hr3 hc3 N8;by_cases Cx:n=256
  ·subst Cx;go_wp2_with fail;refine aI cB ?_;rintro e w3' ⟨rfl,rfl⟩;clear cB;go_upto_region 7 with fail
   generalize w3'.setCell ⟨kr,1,none⟩ (.int .i64 ((i:Int)+1))=W5 at *;exact aa1 (KE T hT (aF.bad 8 L C) kr W5 pq.o)
  ·have ash:((n:Int) == 256)=false:=bN ae;clear cB;go_upto_region 7 with fail
   generalize w3.setCell ⟨kr,1,none⟩ (.int .i64 ((i:Int)+1))=W5 at *;exact aa1 (KE T hT (aF.bad 8 L C) kr W5 pq.o)
 | some v=>
  obtain rfl:z=v:=hz v hI;clear hz;by_cases Cx:n=256
  ·have HV:=Qh (Gw.o z hI Cx);have cW:=N8 5 w2 gi.o;subst Cx;go_wp2_with fail;refine dF cW ?_;intro w3 ho hr3;have lZ:=Qh (aU.o.trans ho);have zm:=Qh (eJ bC.o ae ho);refine zf hr3.cells ?_;intro v3 hc3 f3 r3;have pq:=Qh (show bD (w3.setCell ⟨kr,1,none⟩ (.int .i64 ((i:Int)+1))) kr T (.bad 5 L C)from (hr3.next).aab ae ah);have ny:=Qh (lZ.o.set 1 (.int .i64 ((i:Int)+1)));have pM:=Qh (dH zm.o (show w.heap.size≠kr by omega) 1 (.int .i64 ((i:Int)+1)));clear cW ho hr3 hc3 N8;go_upto_region 7 with fail
   generalize w3.setCell ⟨kr,1,none⟩ (.int .i64 ((i:Int)+1))=W5 at *;have cT:=KE T hT (aF.bad 5 L C) kr W5 pq.o;go_wp2_with fail;refine aI cT ?_;refine TU ?_;intro w6 ho hq gJ Ub bz z0 z1 y0 y1 z1' y1'
   have ky:=Qh (show R.2=((aF.bad 5 L C).run eL (dJ 3)).2∧(R.2.isOk→R.1=(z,((aF.bad 5 L C).run eL (dJ 3)).1.text))from ⟨by rw[HV.o];rfl,fun h=>by rw[HV.o]at h;exact h.elim⟩);clear cT ho hq;generalize ((aF.bad 5 L C).run eL (dJ 3)).1.text=TX at *;exact Ua
  ·have HV:=Qh (HRo.o z hI Cx);have ash:((n:Int) == 256)=false:=bN ae;refine zf gi.o.cells ?_;intro v3 hc3 f3 r3;have pq:=Qh (show bD (w2.setCell ⟨kr,1,none⟩ (.int .i64 ((i:Int)+1))) kr T (.ok (T.drop (i+1)))from (gi.o.next).AY Aj);have ny:=Qh (aU.o.set 1 (.int .i64 ((i:Int)+1)));have pM:=Qh (dH bC.o (show w.heap.size≠kr by omega) 1 (.int .i64 ((i:Int)+1)));clear hc3 N8;go_upto_region 7 with fail
   generalize w2.setCell ⟨kr,1,none⟩ (.int .i64 ((i:Int)+1))=W5 at *;have cT:=KE T hT (aF.ok (T.drop (i+1))) kr W5 pq.o;go_wp2_with fail;refine aI cT ?_;refine TU ?_;intro w6 ho hq gJ Ub bz z0 z1 y0 y1 z1' y1'
   have ky:=Qh (show R.2=((aF.ok (T.drop (i+1))).run eL (dJ 3)).2∧(R.2.isOk→R.1=(z,((aF.ok (T.drop (i+1))).run eL (dJ 3)).1.text))from HV.o);clear cT ho hq;generalize ((aF.ok (T.drop (i+1))).run eL (dJ 3)).1.text=TX at *;exact Ua
end Go.Proofs.YtfflljgnpfldfaaGreatDoor
