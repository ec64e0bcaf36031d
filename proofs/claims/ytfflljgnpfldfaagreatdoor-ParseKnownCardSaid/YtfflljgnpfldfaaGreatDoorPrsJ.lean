/-
  The parser's steps, plainly: what is left stays a list of tokens with an end, of short texts, not too many.
-/
import Derived.Test.YtfflljgnpfldfaaGreatDoorPrsC
import Derived.Test.YtfflljgnpfldfaaGreatDoorParX
set_option linter.all false
set_option maxHeartbeats 128000000
set_option maxRecDepth 100000
namespace Go.Proofs.YtfflljgnpfldfaaGreatDoor
open Go.Proofs.Tryz
open Go.RowKit Go.Shelf
structure rB (w:World):Prop where
 syn:∃ ev,w.cell? ⟨2,0,none⟩=some ev∧(ev=.nilIface∨∃ te pe,ev=.iface te pe)
 rng:∃ ev,w.cell? ⟨3,0,none⟩=some ev∧(ev=.nilIface∨∃ te pe,ev=.iface te pe)
theorem rB.keep {w w':World} (h:rB w) (hb:Below w.heap.size w w'):rB w':=by
 obtain⟨⟨e,h1,h2⟩,⟨f,h3,h4⟩⟩:=h;exact⟨⟨e,dx h1 hb,h2⟩,⟨f,dx h3 hb,h4⟩⟩
def ja (s:List UInt8):Nat×Bool:=match Lib.parseUintB 64 s with
 | .ok u=>(u,Lib.decDigits u == s)
 | Lib.NumEnd.syntax=>(0,false)
 | .range=>(18446744073709551615,false)
theorem agO (s:List UInt8) (hs:s.length≤1048576) (w:World) (hp:ng w) (hS:rB w) :
  Calls prog 171 #[.string ⟨s.toArray⟩] w fun e w'=>e=.returned (.tuple #[.int .u64 ((ja s).1:Nat),.bool (ja s).2])∧Below w.heap.size w w':=by
 obtain⟨V,hV⟩:∃ V,V=ja s:=⟨_,rfl⟩
 rw[← hV];unfold ja at hV;obtain⟨⟨e1,y1,y2⟩,⟨e2,z1,z2⟩⟩:=hS;have Nz:=Qh (fun W (h:Below w.heap.size w W)=>ng.keep hp h);cases n9:Lib.parseUintB 64 s with
 | ok u=>
  have hu:u < 18446744073709551616:=Bx (Lib.parseUintB_le n9) ah;rw[n9]at hV;have c1:=Tryz.strconv_ParseUint_10_at64_ok ⟨s.toArray⟩ (by show s.length≤_;omega) u (by exact n9) w;have cf:=fun W h=>aqM u hu W h
  replace hV:V=(u,Lib.decDigits u == s):=hV;clear n9 hp;generalize Lib.decDigits u=D at *;have HV:=Qh hV;clear hV;go_enter func171,ntmps171
  go_wp2_with fail;refine aQ c1 ?_;intro w1 hb;have hb1:=Yb hb;have HB:=Qh hb1;have cF:=cf w1 (Nz.o _ hb1);clear hb hb1 c1 cf;go_wp2_with fail;refine pO cF ?_;intro w2 hb aM;clear hb cF;go_wp2_with fail;go_ret2
  exact⟨Bj,aM.o⟩
 | range=>
  rw[n9]at hV;have c1:=Tryz.strconv_ParseUint_10_at64_range ⟨s.toArray⟩ (by show s.length≤_;omega) (by exact n9) e2 w z1 z2;have HV:=Qh hV;clear hV n9 hp;exact abQ c1
 | _=>
  rw[n9]at hV;have c1:=Tryz.strconv_ParseUint_10_at64_syntax ⟨s.toArray⟩ (by show s.length≤_;omega) (by exact n9) e1 w y1 y2;have HV:=Qh hV;clear hV n9 hp;exact abQ c1
def gQ (below:Nat) (ts:List aw):PR Nat:=
 if (ax ts).kind=2 then (if (ja (ax ts).text).2=true∧(ja (ax ts).text).1 < below then .ok (ja (ax ts).text).1 ts.tail else eY 8 ts) else iy ts
theorem agP (below:Nat) (hbl:below < 18446744073709551616) (ts:List aw) (ed:pj ts) (hlen:(ax ts).text.length≤1048576) (kp:Nat) (w:World) (h:bH w kp ts) (hp:ng w) (hS:rB w) :
  Calls prog 143 #[.pointer (some ⟨kp,0,none⟩),.int .u64 below] w fun e w'=>fN kp w (fun n=>.int .u64 (n:Nat)) (gQ below ts) e w':=by
 have bm:=ed.pos;have cf:=fun W hW=>Es ts bm kp W hW
 have cg:=fun W hW=>GK 8 ts bm kp W hW
 have cw:=fun W hW=>rF ts bm kp W hW
 have cn:=fun W hW=>wF 2 ts ed kp W hW
 have cq:=fun W h1 h2=>agO (ax ts).text hlen W h1 h2
 unfold eG bZ at cw;obtain⟨R,hR⟩:∃ R,R=gQ below ts:=⟨_,rfl⟩
 rw[← hR];unfold gQ iy eY at hR;have gC:=Qh hR;have jk:=tU;have hf0:=pC;have sQ:=Qh (show(ax ts).kind=2→dJ 2 ts=.ok (ax ts) ts.tail from fun h=>PQ);refine fQ h (fun W (h:Below w.heap.size w W)=>ng.keep hp h) (fun W (h:Below w.heap.size w W)=>rB.keep hS h) (cw w h) ?_;intro H0 Nz HST Eu;clear hR h hp hS;generalize hn:ja (ax ts).text=nv at *;obtain⟨n,b⟩:=nv;simp only at cq;clear hn;go_enter func143,ntmps143
 go_wp2_with fail;refine aQ Eu ?_;intro w1 hb;have HB:=Qh hb;have H1:=Qh (H0.o.keep hb);clear Eu hb H0;by_cases hk:(ax ts).kind=2;case neg=>
  have dv:=Qh (show R=.bad (lM ts) (ax ts).line (ax ts).ak by rw[gC.o,if_neg hk]);have e1:=bN hk;have cF:=cf w1 H1.o;generalize (ax ts).kind=K at *;exact Hy cF
 case pos=>
  have cW:=cw w1 H1.o;have YK:=sQ.o hk;rw[hk]at cW ⊢;go_wp2_with fail;refine pO cW ?_;intro w2 hb aM;have H2:=Qh (H1.o.keep hb);have cQ:=cq w2 (Nz.o _ aM.o) (HST.o _ aM.o);clear hb cW cw;go_wp2_with fail;refine Lf cQ ?_;intro w3 hb bT;have H3:=Qh (H2.o.keep hb);clear hb cQ cq;have cG:=cg w3 H3.o;have cN:=cn w3 H3.o;rw[YK]at cN;unfold fN at cN;cases b
  ·have dv:=Qh (show R=.bad 8 (ax ts).line (ax ts).ak by rw[gC.o,if_pos hk];simp);go_wp2_with fail;refine aQ cG ?_;intro w4 hb;clear cG;exact CO (aA.of_below kp (aH bT.o hb af))
  ·by_cases hlt:n < below
   ·have dv:=Qh (show R=.ok n ts.tail by rw[gC.o,if_pos hk];simp[hlt]);have Cp:¬ ((below:Int)≤n):=ae;go_wp2_with fail;refine dF cN ?_;intro w4 ho hp;have HO:=Qh ((aA.of_below kp bT.o).trans ho);have HP:=Qh hp;clear cN ho hp;exact UO
   ·have dv:=Qh (show R=.bad 8 (ax ts).line (ax ts).ak by rw[gC.o,if_pos hk];simp[hlt]);have Cp:(below:Int)≤n:=ae;go_wp2_with fail;refine aQ cG ?_;intro w4 hb;clear cG;exact CO (aA.of_below kp (aH bT.o hb af))
def oF (ts:List aw):PR (Nat×Bool):=match gQ 4294967296 ts with
 | .ok n aJ=>.ok (n % 2147483648,decide (2147483648≤n)) aJ
 | .bad no l c=>.bad no l c
theorem Sz {below n:Nat} {ts aJ:List aw} (h:gQ below ts=.ok n aJ):n < below:=by
 unfold gQ iy eY at h;split at h
 ·split at h
  ·rename_i h2
   cases h
   exact h2.2
  ·cases h
 ·cases h
theorem SA (ts:List aw) (ed:pj ts) (hlen:(ax ts).text.length≤1048576) (kp:Nat) (w:World) (h:bH w kp ts) (hp:ng w) (hS:rB w) :
  Calls prog 142 #[.pointer (some ⟨kp,0,none⟩)] w fun e w'=>fN kp w (fun x=>.tuple #[.int .u32 (x.1:Nat),.bool x.2]) (oF ts) e w':=by
 have c:=agP 4294967296 ah ts ed hlen kp w h hp hS;rw[show((4294967296:Nat):Int)=4294967296 from rfl]at c;obtain⟨R,hR⟩:∃ R,R=oF ts:=⟨_,rfl⟩
 rw[← hR];unfold oF at hR;cases hW:gQ 4294967296 ts with
 | bad no l cc=>
  rw[hW]at c hR;have dv:=Qh hR;clear hR hW;go_enter func142,ntmps142
  go_wp2_with fail;refine qT c ?_;clear c;intro w1 HO;go_wp2_with fail;exact⟨rfl,by rw[dv.o];exact⟨rfl,HO.o⟩⟩
 | ok n aJ=>
  have hlt:=Sz hW;rw[hW]at c hR;have dv:=Qh hR;clear hR hW;go_enter func142,ntmps142
  go_wp2_with fail;refine dF c ?_;intro w1 ho fL;have HO:=Qh ho;have HP:=Qh fL;have aqN:bits .and .u64 (n:Int) 2147483647=((n % 2147483648:Nat):Int):=by
   have:=bits_and_u64_nat n 2147483647 ae ah;rw[show((2147483647:Nat):Int)=2147483647 from rfl]at this;rw[this,show n &&& 2147483647=n % 2147483648 from Nat.and_two_pow_sub_one_eq_mod n 31]
  have HQ:=Qh (show((n % 2147483648:Nat):Int) % 4294967296=((n % 2147483648:Nat):Int)by omega);have HD:=Qh (show((n:Int) / 2147483648 == 1)=decide (2147483648≤n)by
   by_cases h:2147483648≤n
   ·rw[fy h,dZ];omega
   ·rw[dU h,gT];omega)
  clear c ho fL;generalize n % 2147483648=m at *;go_wp2_with fail;go_ret2
  rw[dv.o];refine⟨?_,HO.o,HP.o⟩;rw[← HD.o];simp[HQ.o]
def Az (s:List UInt8):Option (Int×Int)×Int:=
 if 96 < s.length then (none,3) else match nd s with
  | none=>(none,9)
  | some (neg,d,p)=>match nU neg (cX d) p with
   | some x=>(some x,0)
   | none=>(none,9)
def mZ (ts:List aw):PR (Int×Int):=
 if (ax ts).kind=2 then (match Az (ax ts).text with
  | (some x,_)=>.ok x ts.tail
  | (none,m)=>eY m ts) else iy ts
theorem ad0 (s:List UInt8):(∃ n d,GD s=.tuple #[.agg #[.int .i64 n,.int .i64 d],.nilIface]∧Az s=(some (n,d),0)) ∨
  (∃ m:Int,GD s=.tuple #[.agg #[.int .i64 0,.int .i64 0],dE m]∧Az s=(none,if m=3 then 3 else 9)):=by
 unfold GD Az;by_cases h:96 < s.length
 ·rw[if_pos h,if_pos h];exact .inr ⟨3,rfl,rfl⟩
 ·rw[if_neg h,if_neg h];unfold Ym;cases nd s with
  | none=>exact .inr ⟨8,rfl,rfl⟩
  | some x=>
   obtain⟨neg,d,p⟩:=x;simp only;cases nU neg (cX d) p with
   | none=>exact .inr ⟨9,rfl,rfl⟩
   | some y=>
    obtain⟨n,d'⟩:=y;exact .inl ⟨n,d',rfl,rfl⟩
theorem aA.new {kp:Nat} {w w':World} (h:aA kp w w') (k:Nat) (hk:w.heap.size≤k) (j:Nat) (v:Value):aA kp w (w'.setCell ⟨k,j,none⟩ v):=
 ⟨h.os,h.tape,h.output,by have:=h.size;simpa [World.setCell]using this,fun b hb hne=>(dN _ _ _ _ (show b≠k by omega)).trans (h.block b hb hne)⟩
theorem SD:(prog.info? 61).map (fun i=>(i.zero,i.size))=some (some (.agg #[.int .i64 0,.int .i64 0]),2):=aj
theorem Ev (ts:List aw) (ed:pj ts) (hlen:(ax ts).text.length≤1048576) (kp:Nat) (w:World) (h:bH w kp ts) :
  Calls prog 173 #[.pointer (some ⟨kp,0,none⟩)] w fun e w'=>fN kp w (fun x=>.agg #[.int .i64 x.1,.int .i64 x.2]) (mZ ts) e w':=by
 have bm:=ed.pos;have hb0:Below w.heap.size w (w.alloc (.cells #[.int .i64 0,.int .i64 0] 61)):=(aC _ _).alloc af _;have cf:=fun W hW=>Es ts bm kp W hW
 have cg:=fun no W hW=>GK no ts bm kp W hW
 have cw:=fun W hW=>rF ts bm kp W hW
 have cn:=fun W hW=>wF 2 ts ed kp W hW
 have cq:=fun W=>ap6 (ax ts).text ae W
 unfold eG bZ at cw;obtain⟨R,hR⟩:∃ R,R=mZ ts:=⟨_,rfl⟩
 rw[← hR];unfold mZ iy eY at hR;have gC:=Qh hR;have jk:=tU;have hf0:=pC;have sQ:=Qh (show(ax ts).kind=2→dJ 2 ts=.ok (ax ts) ts.tail from fun h=>PQ);have h0:=h.keep hb0;have H0:=Qh h0;have K2:=Qh (dK w (.cells #[.int .i64 0,.int .i64 0] 61));have dG:=h.lt;have Eu:=cw _ h0;have dS:=Qh hb0;have hu:=underlying61;clear hR h hb0 h0;go_enter func173,ntmps173
 go_wp2_with fail;refine aQ Eu ?_;intro w1 hb;refine aY (aH dS.o hb af) (H0.o.keep hb) (bF K2.o hb) ?_;intro HB H1 K1;clear Eu hb H0 K2;by_cases hk:(ax ts).kind=2;case neg=>
  have dv:=Qh (show R=.bad (lM ts) (ax ts).line (ax ts).ak by rw[gC.o,if_neg hk]);have e1:=bN hk;have cF:=cf w1 H1.o;generalize (ax ts).kind=K at *;exact Hy cF
 case pos=>
  have cW:=cw w1 H1.o;have YK:=sQ.o hk;rw[hk]at cW ⊢;go_wp2_with fail;refine pO cW ?_;intro w2 hb aM;have H2:=Qh (H1.o.keep hb);have K3:=Qh (bF K1.o hb);clear hb cW cw K1;go_wp2_with fail;rcases ad0 (ax ts).text with ⟨n,d,hv,hfr⟩|⟨m,hv,hfr⟩
  ·have dv:=Qh (show R=.ok (n,d) ts.tail by rw[gC.o,if_pos hk,hfr]);have cQ:=cq w2;rw[hv]at cQ;refine aQ cQ ?_;intro w3 hb;refine aY (aH aM.o hb af) (H2.o.keep hb) (bF K3.o hb) ?_;intro bT H3 K4;clear hb cQ cq hv;have hb4:Below w3.heap.size w3 (w3.alloc (.cells #[.int .i64 n,.int .i64 d] 61)):=(aC _ _).alloc af _;refine lC (aH bT.o hb4 af) (H3.o.keep hb4) (bF K4.o hb4) (dK w3 (.cells #[.int .i64 n,.int .i64 d] 61)) ?_;intro fe H4 K5 K3';have hk3:w.heap.size < w3.heap.size:=(gE K4.o)
   have cI:=aeI 3;have cN:=cn _ H4.o;rw[YK]at cN;unfold fN at cN;clear hb4 cn cf cg K4 H3 K3;go_upto_region 4 with (refine eX (Z:=#[.int .i64 0,.int .i64 0]) (cs:=#[.int .i64 n,.int .i64 d]) 61 (.tmp 3) (.tmp 16) SD rfl rfl ?_)
   generalize w3.heap.size=k3 at *;generalize w3.alloc (.cells #[.int .i64 n,.int .i64 d] 61)=W4 at *;go_wp2_with fail;refine aI (cI _) ?_
   rintro e w4' ⟨rfl,rfl⟩;go_wp2_with fail;refine dF cN ?_;intro w5 ho hp;have hz:w5.heap[w.heap.size]? = some (.cells #[.int .i64 0,.int .i64 0] 61):=(ho.block _ (gE K5.o) cO).trans K5.o;have hx:w5.heap[k3]? = some (.cells #[.int .i64 n,.int .i64 d] 61):=(ho.block _ (Array.getElem?_eq_some_iff.1 K3'.o).1 cO).trans K3'.o;have bz:ai w5 w.heap.size #[.int .i64 0,.int .i64 0]:=⟨_,hz⟩
   have bx:ai w5 k3 #[.int .i64 n,.int .i64 d]:=⟨_,hx⟩
   have HO:=Qh ((aA.of_below kp fe.o).trans ho);have HP:=Qh hp;clear ho hp cN hz hx;obtain⟨r0,r1,r2,r3⟩:=bz.two;obtain⟨s0,s1,-,-⟩:=bx.two;go_wp2_with fail;refine bB (v:=.agg #[.int .i64 n,.int .i64 d]) (by simp[results,results173,go_sem,r0,r1]) rfl ?_;rw[dv.o];exact⟨rfl,(HO.o.new _ af _ _).new _ af _ _,(HP.o.set dG _ _).set dG _ _⟩
  ·have dv:=Qh (show R=.bad (if m=3 then 3 else 9) (ax ts).line (ax ts).ak by rw[gC.o,if_pos hk,hfr]);have cQ:=cq w2;rw[hv]at cQ;refine aQ cQ ?_;intro w3 hb;have hb4:Below w3.heap.size w3 (w3.alloc (.cells #[.int .i64 0,.int .i64 0] 61)):=(aC _ _).alloc af _;have fe:=Qh (aH (aH aM.o hb af) hb4 af);have H4:=Qh ((H2.o.keep hb).keep hb4);have cI:=Q5 m 3;have cG:=fun no=>cg no _ H4.o
   clear hb4 cn cf cg K3 H2 hb cQ cq hv;unfold dE;go_upto_region 4 with (refine eX (Z:=#[.int .i64 0,.int .i64 0]) (cs:=#[.int .i64 0,.int .i64 0]) 61 (.tmp 3) (.tmp 16) SD rfl rfl ?_)
   generalize w3.heap.size=k3 at *;generalize w3.alloc (.cells #[.int .i64 0,.int .i64 0] 61)=W4 at *;go_wp2_with fail;refine aI (cI _) ?_
   rintro e w4' ⟨rfl,rfl⟩;by_cases hm:m=3
   ·subst hm;go_wp2_with fail;refine aQ (cG 3) ?_;intro w5 hb
    clear cG;exact CO (aA.of_below kp (aH fe.o hb af))
   ·have e3:=bN hm;go_wp2_with fail;refine aQ (cG 9) ?_;intro w5 hb
    have ir:=Qh (aA.of_below kp (aH fe.o hb af));clear hb cG;go_wp2_with fail;exact⟨rfl,by rw[dv.o,if_neg hm];exact⟨rfl,ir.o⟩⟩
open Go.RowKit
def pg:Nat→List aw→PR Unit
 | 0,ts=>.ok () ts
 | f+1,ts=>if dt [59] ts then .ok () ts else match dJ (ax ts).kind ts with
  | .ok _ aJ=>pg f aJ
  | .bad n l c=>.bad n l c
def qD:Nat→List aw→PR Unit
 | 0,ts=>.ok () ts
 | f+1,ts=>if dt [67,77,95] ts then (match pg ts.tail.length ts.tail with
  | .ok _ aJ=>(match cj [59] aJ with
   | .ok _ iU=>qD f iU
   | .bad n l c=>.bad n l c)
  | .bad n l c=>.bad n l c) else .ok () ts
def dQ (ts:List aw):PR Unit:=qD ts.length ts
def xY (f:Nat) (r:PR Unit):PR Unit:=match r with
 | .ok _ t=>(match cj [59] t with
  | .ok _ t'=>qD f t'
  | .bad n l c=>.bad n l c)
 | .bad n l c=>.bad n l c
theorem Mv (f:Nat) (ts:List aw):qD (f+1) ts=if dt [67,77,95] ts then xY f (pg ts.tail.length ts.tail) else .ok () ts:=rfl
def AA (w:World) (kp:Nat):Nat:=match w.heap[kp]? with
 | some (Obj.cells C _ _)=>(match (C[0]?:Option Value)with
  | some (Value.slice _ n _)=>n
  | _=>0)
 | _=>0
theorem bH.cnt {w:World} {kp:Nat} {ts:List aw} (h:bH w kp ts):AA w kp=ts.length:=by
 obtain⟨a,cap,h1,-⟩:=h;unfold AA;rw[h1];rfl
theorem GO (ts:List aw) (ed:pj ts) (kp:Nat) (w:World) (h:bH w kp ts) :
  Calls prog 86 #[.pointer (some ⟨kp,0,none⟩)] w fun e w'=>fN kp w (fun _=>.tuple #[]) (dQ ts) e w':=by
 obtain⟨R,hR⟩:∃ R,R=dQ ts:=⟨_,rfl⟩
 rw[← hR];unfold dQ at hR;have H0:=Qh h;have HR:=Qh hR;clear hR h;go_enter func86,ntmps86
 go_wp2_with fail;go_loopw [] (fun wr=>∃ (dX:List aw) (f:Nat),pj dX∧dX.length≤f∧qD f dX=R∧bH wr kp dX∧aA kp w wr) (fun wr=>AA wr kp)
 case atStart=>exact⟨ts,ts.length,ed,af,HR.o.symm,H0.o,aA.of_below kp (aC _ _)⟩
 case round=>
  obtain⟨dX,f,RO,hf,hr1,fL,ho1⟩:=hrel;have cm:=agM [67,77,95] dX RO kp wr fL;have bm:=RO.pos;obtain⟨f',rfl⟩:∃ f',f=f' + 1:=⟨f - 1,ae⟩
  rw[Mv]at hr1;unfold GN at cm;refine aY (bH.cnt fL) ho1 (fun h=>@mY [67,77,95] dX h) ?_;intro oI fM Md;generalize dt [67,77,95] dX=S at *;have dY:=Qh hr1;clear hr1 ho1 fL;cases S
  ·have HV:=Qh (show R=.ok () dX by rw[← dY.o];rfl);simp only[zC,tj]at cm;unfold fN at cm;go_wp2_with fail;refine dF cm ?_;intro w2 ho hp;have HO:=Qh (fM.o.trans ho);have HP:=Qh hp;clear cm ho hp;go_wp2_with fail;refine⟨rfl,.tuple #[],by simp[results,results86],?_⟩;rw[HV.o];exact⟨rfl,HO.o,HP.o⟩
  ·have HV:=Qh (show R=xY f' (pg dX.tail.length dX.tail)by rw[← dY.o];rfl);simp only[kG]at cm;unfold fN at cm;have YH:=RO.tail (Md.o rfl);have hlt:dX.tail.length < dX.length:=vF;go_wp2_with fail;refine dF cm ?_;intro w2 ho hp;have HO:=Qh (fM.o.trans ho);have HP:=Qh hp;clear cm ho hp;generalize dX.tail=ki at *;go_wp2_with fail;go_loopw [] (fun ww=>∃ (dD:List aw) (f3:Nat),pj dD∧dD.length≤f3∧R=xY f' (pg f3 dD)∧bH ww kp dD∧aA kp w ww∧dD.length < dX.length) (fun ww=>AA ww kp)
   case atStart=>exact⟨ki,ki.length,YH,af,HV.o,HP.o,HO.o,hlt⟩
   case round=>
    obtain⟨dD,f3,GQ,hf3,hr3,Kk,NA,hl3⟩:=hrel;obtain⟨ww,FO⟩:∃ y,y=wr:=⟨_,rfl⟩
    subst FO;have cs:=GL [59] dD GQ.pos kp ww Kk;have cw:=fun W hW=>rF dD GQ.pos kp W hW
    have cn:=fun W hW=>wF (ax dD).kind dD GQ kp W hW
    have cmu:=fun W hW=>iT [59] dD GQ kp W hW
    unfold eG bZ at cw;have hf0:=pC;have avf:=GQ.pos;obtain⟨g,rfl⟩:∃ g,f3=g+1:=⟨f3 - 1,ae⟩
    have sS:=Qh (bH.cnt Kk);have Cq:=Qh Kk;clear Kk;refine fx NA (fun h=>@mY [59] dD h) (show R=xY f' (if dt [59] dD then .ok () dD else match dJ (ax dD).kind dD with | .ok _ aJ=>pg g aJ | .bad n l c=>.bad n l c)from hr3) (show cj [59] dD=if dt [59] dD then .ok (ax dD) dD.tail else iy dD from rfl) ?_;clear hr3 NA;intro lZ aqO jN SE;generalize dt [59] dD=S3 at *;go_wp2_with fail;refine aQ cs ?_;intro w4 hb;have ny:=Qh (lZ.o.trans (aA.of_below kp hb));have zl:=Qh (Cq.o.keep hb);clear cs hb;cases S3
    ·have wH:=Qh (show R=xY f' (match dJ (ax dD).kind dD with | .ok _ aJ=>pg g aJ | .bad n l c=>.bad n l c)from jN.o);have cW:=cw w4 zl.o;go_wp2_with fail;refine aQ cW ?_;intro w5 hb;have iV:=Qh (ny.o.trans (aA.of_below kp hb));have cN:=cn w5 (zl.o.keep hb);clear cW cw hb;by_cases hk:(ax dD).kind=0
     ·have HN:=Qh (show dJ (ax dD).kind dD=.bad (lM dD) (ax dD).line (ax dD).ak by unfold dJ;rw[if_neg (fun h=>h.2 hk)];rfl);have dv:=Qh (show R=.bad (lM dD) (ax dD).line (ax dD).ak by rw[wH.o,HN.o];rfl);rw[HN.o,hk]at cN;unfold fN at cN;go_wp2_with fail;refine aQ cN ?_;intro w6 ho;have gJ:=Qh (iV.o.trans ho);clear cN ho;go_wp2_with fail;exact⟨rfl,by rw[dv.o];exact⟨rfl,gJ.o⟩⟩
     ·have HN:=Qh (YI hk);have dv:=Qh (show R=xY f' (pg g dD.tail)by rw[wH.o,HN.o]);have YL:=GQ.tail hk;rw[HN.o]at cN;unfold fN at cN;go_wp2_with fail;refine dF cN ?_;intro w6 ho hp;refine aY (iV.o.trans ho) hp (bH.cnt hp) ?_;intro gJ jE eU;clear cN ho hp;go_wp2_with fail;go_roundw;case rel=>exact⟨dD.tail,g,YL,vF,dv.o,jE.o,gJ.o,vF⟩
      case measure=>rw[eU.o,sS.o,sZ];omega
    ·have HM:=Qh (show cj [59] dD=.ok (ax dD) dD.tail by rw[SE.o];rfl);have wH:=Qh (show R=xY f' (.ok () dD)from jN.o);have dv:=Qh (show qD f' dD.tail=R by
      rw[wH.o];show _=(match cj [59] dD with | .ok _ t'=>qD f' t' | .bad n l c=>PR.bad n l c);rw[HM.o])
     have YL:=GQ.tail (aqO.o rfl);have cM:=cmu w4 zl.o;rw[HM.o]at cM;unfold fN at cM;go_wp2_with fail;refine dF cM ?_;intro w6 ho hp;refine aY (ny.o.trans ho) hp (bH.cnt hp) ?_;intro gJ jE eU;clear cM ho hp cmu cn cw;go_wp2_with fail;go_roundw;case rel=>exact⟨dD.tail,f',YL,vF,dv.o,jE.o,gJ.o⟩
     case measure=>rw[eU.o,oI.o,sZ];omega
structure qo (kp ks:Nat) (w w':World):Prop where
 os:w'.os=w.os
 tape:w'.tape=w.tape
 output:w'.output=w.output
 size:w.heap.size≤w'.heap.size
 block:∀ k,k < w.heap.size→k≠kp→k≠ks→w'.heap[k]? = w.heap[k]?
theorem qo.Ld {kp ks:Nat} {w w':World} (h:aA kp w w'):qo kp ks w w':=⟨h.os,h.tape,h.output,h.size,fun k hk h1 _=>h.block k hk (by simpa using h1)⟩
theorem qo.trans {kp ks:Nat} {w w' w'':World} (h:qo kp ks w w') (h':qo kp ks w' w''):qo kp ks w w'':=
 ⟨h'.os.trans h.os,h'.tape.trans h.tape,h'.output.trans h.output,bQ h.size h'.size,fun k hk h1 h2=>(h'.block k (iH hk h.size) h1 h2).trans (h.block k hk h1 h2)⟩
theorem qo.set {kp ks:Nat} {w w':World} (h:qo kp ks w w') (j:Nat) (v:Value):qo kp ks w (w'.setCell ⟨ks,j,none⟩ v):=
 h.trans ⟨rfl,rfl,rfl,pR,fun k _ _ h2=>dN _ _ _ _ (show k≠ks from h2)⟩
theorem aqP (s p:List UInt8):(Lib.trimPrefix s p).length≤s.length:=by
 unfold Lib.trimPrefix;split
 ·rw[e7];omega
 ·exact af
def p9 (ts:List aw):PR (Int×Nat):=
 if (ax ts).kind=1 then (if (ax ts).text=[77] then .ok (1,0) ts.tail else
  if Lib.hasPrefix (ax ts).text [109]=true∧(ja (Lib.trimPrefix (ax ts).text [109])).2=true then .ok (2,(ja (Lib.trimPrefix (ax ts).text [109])).1) ts.tail else iy ts)
 else .ok (0,0) ts
def YM (C:Array Value) (x:Int×Nat):Array Value:=if x.1=0 then C else if x.1=1 then C.setIfInBounds 3 (.int .i64 1) else (C.setIfInBounds 3 (.int .i64 2)).setIfInBounds 4 (.int .u64 (x.2:Nat))
def YN (kp ks:Nat) (C:Array Value) (w:World) (R:PR (Int×Nat)) (e:Ending) (w':World):Prop:=match R with
 | .ok x ts=>e=.returned (.tuple #[])∧qo kp ks w w'∧bH w' kp ts∧w'.heap[ks]? = some (.cells (YM C x) 63)
 | .bad no l c=>e=.panicked [{ v:=eH no l c,recovered:=false }]∧qo kp ks w w'
theorem agQ (ts:List aw) (ed:pj ts) (hlen:(ax ts).text.length≤1048576) (kp ks:Nat) (cz:kp < ks) (C:Array Value) (r0:Int) (b0:Nat) (h3:C[3]? = some (.int .i64 r0)) (h4:C[4]? = some (.int .u64 (b0:Nat)))
  (w:World) (h:bH w kp ts) (hC:w.heap[ks]? = some (.cells C 63)) (hp:ng w) (hS:rB w) :
  Calls prog 172 #[.pointer (some ⟨kp,0,none⟩),.pointer (some ⟨ks,0,none⟩)] w fun e w'=>YN kp ks C w (p9 ts) e w':=by
 have bm:=ed.pos;have c:=rF ts bm kp w h;have cf:=fun W hW=>Es ts bm kp W hW
 have cn:=fun W hW=>wF 1 ts ed kp W hW
 unfold eG at c;have mH:=C5 (ax ts);obtain⟨R,hR⟩:∃ R,R=p9 ts:=⟨_,rfl⟩
 rw[← hR];unfold p9 iy eY at hR;have sQ:=Qh (show(ax ts).kind=1→dJ 1 ts=.ok (ax ts) ts.tail from fun h=>PQ);have HE:=Qh (show(bZ (ax ts)).toArray=#[.int .i64 (ax ts).kind,.string ⟨(ax ts).text.toArray⟩,.int .i64 (ax ts).line,.int .i64 (ax ts).ak]from rfl);have hsz:(bZ (ax ts)).toArray.size=4:=rfl;refine aY hR h hC ?_;intro gC H0 oX;have avg:ks < w.heap.size:=(gE hC)
 have Nz:=Qh (fun W (h:Below w.heap.size w W)=>ng.keep hp h);have HST:=Qh (fun W (h:Below w.heap.size w W)=>rB.keep hS h);clear hR h hC hp hS;generalize Kj:(bZ (ax ts)).toArray=L at *;have NB:=Qh Kj;clear Kj;go_enter func172,ntmps172
 go_wp2_with fail;refine aQ c ?_;intro w1 hb;have HB:=Qh (hb.alloc hb.size (.cells L 129));have nM:w.heap.size≤w1.heap.size:=hb.size;clear c hb;go_upto_region 1 with (refine eX (Z:=kB) (cs:=L) 129 (.tmp 4) (.tmp 10) Ij Bk mH ?_)
 have b5:=ai.new w1 L 129;have ir:=Qh b5;have f0:(w1.alloc (.cells L 129)).cell? ⟨w1.heap.size,0,none⟩=some (.int .i64 (ax ts).kind):=b5.cell 0 _ (by rw[HE.o];rfl);have f1:(w1.alloc (.cells L 129)).cell? ⟨w1.heap.size,1,none⟩=some (.string ⟨(ax ts).text.toArray⟩):=b5.cell 1 _ (by rw[HE.o];rfl);have H1:=Qh (H0.o.keep HB.o);have oI:=Qh (bF oX.o HB.o);clear b5;generalize hk5:w1.heap.size=k5 at *;generalize w1.alloc (.cells L 129)=W at *;by_cases hk:(ax ts).kind=1;case neg=>
  have HV:=Qh (show R=.ok (0,0) ts by rw[gC.o,if_neg hk]);have e1:=bN hk;generalize (ax ts).kind=K at *;go_wp2_with fail;refine⟨rfl,.tuple #[],by simp[results,results172],?_⟩;rw[HV.o];exact⟨rfl,qo.Ld (aA.of_below kp HB.o),H1.o,oI.o⟩
 case pos=>
  have cNR:=sQ.o hk;rw[hk]at f0;have Cr:∀ W',Calls prog 192 #[.string ⟨(ax ts).text.toArray⟩,.string ⟨#[109]⟩] W' fun e w'=>e=.returned (.tuple #[.string ⟨(Lib.trimPrefix (ax ts).text [109]).toArray⟩,.bool (Lib.hasPrefix (ax ts).text [109])])∧w' = W':=fun W'=>Tryz.strings_CutPrefix ⟨(ax ts).text.toArray⟩ ⟨#[109]⟩ W'
  have cq:=fun W h1 h2=>agO (Lib.trimPrefix (ax ts).text [109]) (bQ (aqP _ _) hlen) W h1 h2
  have YO:=Qh (gC.o.trans (if_pos hk));generalize hn:ja (Lib.trimPrefix (ax ts).text [109])=nv at *;obtain⟨n,b⟩:=nv;simp only at cq;clear hn gC;generalize Lib.trimPrefix (ax ts).text [109]=D at *;generalize Lib.hasPrefix (ax ts).text [109]=P at *;go_wp2_with fail;refine aI (Cr _) ?_
  rintro e w2 ⟨rfl,rfl⟩;have cQ:=cq w2 (Nz.o _ HB.o) (HST.o _ HB.o);clear Cr cq;go_wp2_with fail;refine pO cQ ?_;intro w3 hb bT;have H3:=Qh (H1.o.keep hb);have sS:=Qh (bF oI.o hb);have g1:=dx f1 hb;clear cQ hb f0 f1;have c3:=ai.cell ⟨_,sS.o⟩ 3 _ h3;have c4:=ai.cell ⟨_,sS.o⟩ 4 _ h4;have r3:=ai.free ⟨_,sS.o⟩ 3;have r4:=ai.free ⟨_,sS.o⟩ 4;by_cases hM:(ax ts).text=[77]
  ·have HV:=Qh (show R=.ok (1,0) ts.tail by rw[YO.o,if_pos hM]);rw[hM]at g1;refine aY (bJ sS.o 3 (.int .i64 1)) (H3.o.set cz 3 (.int .i64 1)) ((qo.Ld (ks:=ks) (aA.of_below kp bT.o)).set 3 (.int .i64 1)) ?_;intro N4 P4 O4;have abl:ks < (w3.setCell ⟨ks,3,none⟩ (.int .i64 1)).heap.size:=(gE N4.o)
   have cN:=cn _ P4.o;rw[cNR]at cN;unfold fN at cN;clear cn cf c4 r4;go_upto_region 9 with fail
   clear g1 c3 r3;generalize w3.setCell ⟨ks,3,none⟩ (.int .i64 1)=W4 at *;exact abk cN
  ·have eM:=bN hM;by_cases hb2:P=true∧b=true
   ·obtain⟨rfl,rfl⟩:=hb2;refine lC (show R=.ok (2,n) ts.tail by rw[YO.o,if_neg hM,if_pos ⟨rfl,rfl⟩]) (bJ (bJ sS.o 3 (.int .i64 2)) 4 (.int .u64 (n:Nat))) ((H3.o.set cz 3 (.int .i64 2)).set cz 4 (.int .u64 (n:Nat))) (((qo.Ld (ks:=ks) (aA.of_below kp bT.o)).set 3 (.int .i64 2)).set 4 (.int .u64 (n:Nat))) ?_;intro HV N4 P4 O4;have abl:ks < ((w3.setCell ⟨ks,3,none⟩ (.int .i64 2)).setCell ⟨ks,4,none⟩ (.int .u64 (n:Nat))).heap.size:=(gE N4.o)
    have cN:=cn _ P4.o;rw[cNR]at cN;unfold fN at cN;clear cn cf;go_upto_region 9 with fail
    clear g1 c3 r3 c4 r4;generalize (w3.setCell ⟨ks,3,none⟩ (.int .i64 2)).setCell ⟨ks,4,none⟩ (.int .u64 (n:Nat))=W4 at *;exact abk cN
   ·have HV:=Qh (show R=.bad (lM ts) (ax ts).line (ax ts).ak by rw[YO.o,if_neg hM,if_neg hb2]);have cF:=cf w3 H3.o;have wy:(P && b)=false:=(by cases P<;>cases b<;>simp_all);cases P
    ·clear hb2 wy;exact acd cF
    ·have hb0:b=false:=(by simpa using wy);subst hb0;clear hb2 wy;exact acd cF
def di (ts:List aw):Prop:=pj ts∧(∀ t∈ts,t.text.length≤1048576)∧ts.length≤4000000
theorem di.tail {ts:List aw} (h:di ts) (hk:(ax ts).kind≠0):di ts.tail:=⟨h.1.tail hk,fun t ht=>h.2.1 t (List.mem_of_mem_tail ht),by have:=h.2.2;rw[sZ];omega⟩
theorem di.head {ts:List aw} (h:di ts):(ax ts).text.length≤1048576:=by
 rw[aqJ h.1.pos];exact h.2.1 _ (gU _)
theorem PR.ku {α β:Type} (x:α) (ts:List aw) (f:α→List aw→PR β):(PR.ok x ts).bind f=f x ts:=rfl
theorem PR.ug {α β:Type} (n l c:Int) (f:α→List aw→PR β):(PR.bad n l c:PR α).bind f=.bad n l c:=rfl
theorem YP {kind:Int} {ts aJ:List aw} {x:aw} (h:dJ kind ts=.ok x aJ) (hb:di ts):di aJ∧x=ax ts∧aJ = ts.tail∧(ax ts).kind=kind:=by
 unfold dJ iy eY at h;split at h
 ·rename_i hk
  cases h
  exact⟨hb.tail (by rw[hk.1];exact hk.2),rfl,rfl,hk.1⟩
 ·cases h
theorem qg {text:List UInt8} {ts aJ:List aw} {x:aw} (h:cj text ts=.ok x aJ) (hb:di ts):di aJ∧x=ax ts∧aJ = ts.tail:=by
 unfold cj iy eY at h;split at h
 ·rename_i hk
  cases h
  exact⟨hb.tail (mY hk),rfl,rfl⟩
 ·cases h
theorem avh {text:List UInt8} {ts aJ:List aw} {x:Bool} (h:GN text ts=.ok x aJ) (hb:di ts):di aJ∧aJ.length≤ts.length∧(x=true→aJ.length < ts.length):=by
 unfold GN at h;have hp:=hb.1.pos;split at h
 ·rename_i hk
  cases h
  exact⟨hb.tail (mY hk),vF,fun _=>vF⟩
 ·cases h
  exact⟨hb,af,fun e=>sW⟩
theorem Kl {ts aJ:List aw} {x:List UInt8} (h:ee ts=.ok x aJ) (hb:di ts):di aJ∧x=(ax ts).text∧x.length≤64∧aJ = ts.tail:=by
 unfold ee iy eY at h;split at h
 ·rename_i hk
  split at h
  ·rename_i hl
   cases h
   exact⟨hb.tail (by rw[YJ hk];decide),rfl,hl,rfl⟩
  ·cases h
 ·cases h
theorem NC {below n:Nat} {ts aJ:List aw} (h:gQ below ts=.ok n aJ) (hb:di ts):di aJ∧n < below∧aJ = ts.tail:=by
 refine⟨?_,Sz h,?_⟩<;>(unfold gQ iy eY at h;split at h)
 ·rename_i hk
  split at h
  ·cases h
   exact hb.tail qp
  ·cases h
 ·cases h
 ·split at h
  ·cases h;rfl
  ·cases h
 ·cases h
theorem ND {ts aJ:List aw} {x:Int×Int} (h:mZ ts=.ok x aJ) (hb:di ts):di aJ∧aJ = ts.tail∧∃ m,Az (ax ts).text=(some x,m):=by
 unfold mZ iy eY at h;split at h
 ·rename_i hk
  split at h
  ·rename_i y m hf
   cases h
   exact⟨hb.tail qp,rfl,m,hf⟩
  ·cases h
 ·cases h
theorem agR {ts aJ:List aw} {x:Int×Nat} (h:p9 ts=.ok x aJ) (hb:di ts):di aJ∧aJ.length≤ts.length:=by
 have hp:=hb.1.pos;unfold p9 iy eY at h;split at h
 ·rename_i hk
  have ht:=hb.tail qp;split at h
  ·cases h
   exact⟨ht,vF⟩
  ·split at h
   ·cases h
    exact⟨ht,vF⟩
   ·cases h
 ·cases h
  exact⟨hb,af⟩
theorem agS:∀ (f:Nat) {ts aJ:List aw} {x:Unit},pg f ts=.ok x aJ→di ts→di aJ∧aJ.length≤ts.length
 | 0,ts,aJ,x,h,hb=>by
  unfold pg at h;cases h
  exact⟨hb,af⟩
 | f+1,ts,aJ,x,h,hb=>by
  unfold pg at h;split at h
  ·cases h
   exact⟨hb,af⟩
  ·split at h
   ·rename_i y ki hn
    obtain⟨h1,-,h2,-⟩:=YP hn hb;have h3:=agS f h h1;rw[h2,sZ]at h3;rw[h2]at h1;exact⟨h3.1,ae⟩
   ·cases h
theorem YQ:∀ (f:Nat) {ts aJ:List aw} {x:Unit},qD f ts=.ok x aJ→di ts→di aJ∧aJ.length≤ts.length
 | 0,ts,aJ,x,h,hb=>by
  unfold qD at h;cases h
  exact⟨hb,af⟩
 | f+1,ts,aJ,x,h,hb=>by
  rw[Mv]at h;split at h
  ·rename_i hs
   have hb2:=hb.tail (mY hs);unfold xY at h;split at h
   ·rename_i y t hk
    have h1:=agS _ hk hb2;split at h
    ·rename_i z t' hm
     obtain⟨h2,-,h3⟩:=qg hm h1.1;have h4:=YQ f h h2;rw[h3,sZ]at h4;have:=h1.2;rw[sZ]at this;exact⟨h4.1,ae⟩
    ·cases h
   ·cases h
  ·cases h
   exact⟨hb,af⟩
end Go.Proofs.YtfflljgnpfldfaaGreatDoor
