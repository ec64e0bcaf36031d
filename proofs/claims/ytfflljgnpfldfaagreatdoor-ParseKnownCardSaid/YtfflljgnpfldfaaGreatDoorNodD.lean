/-
  Layer 5: node.Gather: contract. (Printed by gen_nodd.py.)
-/
import Derived.Test.YtfflljgnpfldfaaGreatDoorSamA
set_option linter.all false
set_option maxHeartbeats 128000000
set_option maxRecDepth 100000
namespace Go.Proofs.YtfflljgnpfldfaaGreatDoor
open Go.Proofs.Tryz
open Go.RowKit
theorem afp {n:Nat}:∀ (rows:List (Row n)) (k j:Nat) (hk:k < rows.length) (hj:j < n) (v:Value) (r:Row n),r.1=rows[k].1.set j v→(rows.set k r).flatMap Row.en=(rows.flatMap Row.en).set (k*n+j) v
 | x::rows,0,j,hk,hj,v,r,hr=>by
  show r.1++rows.flatMap Row.en=(x.1++rows.flatMap Row.en).set (0*n+j) v;rw[hr,Nat.zero_mul,kF,List.set_append_left _ _ (by rw[x.2];exact hj)];rfl
 | x::rows,k+1,j,hk,hj,v,r,hr=>by
  show x.1++(rows.set k r).flatMap Row.en=(x.1++rows.flatMap Row.en).set ((k+1)*n+j) v;rw[afp rows k j zo hj v r hr,List.set_append_right _ _ (by rw[x.2,th];omega),x.2]
  congr 1
  congr 1
  rw[th];omega
theorem aG.Qs {w:World} {base:Nat} {e:TypeId} {n:Nat} {g m cap:Nat} {rows:List (Row n)} (h:aG w base e n Row.en (.slice (some ⟨g,0,none⟩) m cap) rows) {k j:Nat} (hk:k < rows.length) (hj:j < n) (v:Value) (r:Row n) (hr:r.1=rows[k].1.set j v) :
  aG (w.setCell ⟨g,k*n+j,none⟩ v) base e n Row.en (.slice (some ⟨g,0,none⟩) m cap) (rows.set k r):=by
 unfold aG;rw[afp rows k j hk hj v r hr,kD];have hle:(k+1)*n≤rows.length*n:=vL _ ae;rw[th]at hle;exact ade (k*n+j) [v] h (by rw[o7 Row.pU];simp;omega)
theorem afq {α β:Type} {R:α→β→Prop}:∀ (xs:List α) (ys:List β),xs.length=ys.length→(∀ j (h1:j < xs.length) (h2:j < ys.length),R xs[j] ys[j])→iM R xs ys
 | [],[],_,_=>.nil
 | x::xs,y::ys,hl,h=>.cons (h 0 aB aB) (afq xs ys (by simpa using hl) fun j h1 h2=>h (j+1) (by simpa using h1) (by simpa using h2))
 | [],_::_,hl,_=>by simp at hl
 | _::_,[],hl,_=>by simp at hl
def JQ (w wr:World) (k:Nat) (xs:List et) (rows:List (Row 19)):Prop:=xs.length=rows.length∧∀ j (h1:j < xs.length) (h2:j < rows.length),(j < k→uO wr xs[j] rows[j].1)∧(k≤j→xU w xs[j] rows[j].1)
theorem JQ.next {w wr wr':World} {k:Nat} {xs:List et} {rows:List (Row 19)} (h:JQ w wr k xs rows) (hk:k < rows.length) (pW:k < xs.length) (r:Row 19) (hr:uO wr' xs[k] r.1) (hm:∀ x cs,uO wr x cs→uO wr' x cs):JQ w wr' (k+1) xs (rows.set k r):=by
 refine⟨by rw[kD];exact h.1,fun j h1 h2=>?_⟩;rw[kD]at h2;by_cases hj:k=j
 ·subst hj;refine⟨fun _=>?_,fun h3=>ae⟩
  simpa using hr
 ·rw[List.getElem_set_ne hj];exact⟨fun h3=>hm _ _ ((h.2 j h1 h2).1 ae),fun h3=>(h.2 j h1 h2).2 ae⟩
theorem aoI {w:World} {x:et} {r:Row 19} (h:xU w x r.1):VS r:=by
 obtain⟨a,cap,e,-⟩:=h;intro u hu;unfold Row.en at hu;rw[e]at hu;have:=dI.cells_one x.d a x.rs.length cap;exact(LF.1 this) u (Array.mem_toList_iff.1 hu)
theorem aoJ (x:bj) (w:World) (cs:Array Value) (hx:ru w x cs.toList) (hr:x.sigs.length≤4000000) (hr2:∀ s∈x.sigs,s.rs.length≤4000000) :
  Calls prog 40 #[.agg cs] w fun e w'=>∃ C:Array Value,e=.returned (.agg C)∧(∃ v,C.toList=(x.cells v).toList∧aZ w' w.heap.size 63 uO 19 v x.sigs)∧Below w.heap.size w w':=by
 obtain⟨a,cap,iu,rows,hs,h2⟩:=hx;obtain rfl:cs=x.cells (.slice a x.sigs.length cap):=eA.1 iu;clear iu;have hlen:=h2.len;have hone:∀ r:Row 19,r∈rows→VS r:=by
  intro r hr;obtain⟨j,hj,rfl⟩:=List.mem_iff_getElem.1 hr;exact aoI (h2.get ae hj)
 have wC:JQ w w 0 x.sigs rows:=⟨hlen,fun j h3 h4=>⟨fun h=>ae,fun _=>h2.get h3 h4⟩⟩
 have c:=fun W hW=>akC rows hone x.sigs.length hlen a cap W hW ae
 have e0:=bj.nO x (.slice a x.sigs.length cap);have e2:=bj.xV x (.slice a x.sigs.length cap);refine lC (bj.zX x (.slice a x.sigs.length cap)) (bj.cells_one x) (bj.nO x) (fun v=>bj.xV x v) ?_;intro ES EO EZ ET;have gi:=Qh hr2;have e3:∀ h,(x.cells (.slice a x.sigs.length cap))[7]'h=.slice a x.sigs.length cap:=fun _=>rfl
 generalize x.cells (.slice a x.sigs.length cap)=C at *;obtain⟨zb,zz,hz2,gw⟩:=rj w C fE 39 39;have hu:=underlying39;have hb3:=gw;have XF:=Qh wC;have yt:=Qh hlen;clear wC hlen h2 hone hr2;go_enter func40,ntmps40
 go_wp2_with fail;refine jH (c _ (hs.keep hb3 af)) ?_;intro w1 v ho hb
 have afr:=ho.shape;rw[← yt.o]at afr;obtain⟨a2,c2,rfl,-⟩:=afr;have hb4:=aH hb3 hb af;have t3:=zb.keep hb af;have t2:=ai.wg (show((w.alloc (.cells C 39)).alloc (.cells fE 39)).heap[w.heap.size+1]? = some (.cells fE 39)by simpa using dK (w.alloc (.cells C 39)) (.cells fE 39)) hb;have T3:=Qh ((t3.put 7 (.slice a2 x.sigs.length c2)));have T2:=Qh (mV t2 (show w.heap.size+1≠w.heap.size by omega) 7 (.slice a2 x.sigs.length c2));rw[ES.o]at T3;have f0:=t3.cell 7 _ e2;have f1:=t3.free 7;have hbase:w.heap.size+2≤((w.alloc (.cells C 39)).alloc (.cells fE 39)).heap.size:=aB;have HO:=Qh (show aG (w1.setCell ⟨w.heap.size,7,none⟩ (.slice a2 x.sigs.length c2)) (w.heap.size+2) 63 19 Row.en (.slice a2 x.sigs.length c2) rows from by
  refine aG.vo (ho.fU hbase) fun k hk=>?_
  have hk2:w.heap.size+2≤k:=bQ hbase (ho.lt k hk).1;exact dN _ _ _ _ (by show k≠w.heap.size;omega))
 have fe:=Qh (pX hb4 af 7 (.slice a2 x.sigs.length c2));generalize Nd:x.cells (.slice a2 x.sigs.length c2)=C2 at *;have f7:=T3.o.cell 7 _ (by rw[← Nd];exact ET.o _);have bo:=Qh Nd;have q0:=Qh (show C2.size=8 by rw[← Nd];exact EZ.o _);have q1:=Qh (show C2.all (·.oneCell')=true by rw[← Nd];exact EO.o a2 x.sigs.length c2);clear Nd t3 t2 hb hb3 hb4 c zb zz gw hs ho hz2 e0 e2 e3 ET hbase;generalize hL:x.sigs=L at *;have HL:=Qh hL;clear hL;go_wp2_with fail;clear f0 f1;generalize w1.setCell ⟨w.heap.size,7,none⟩ (.slice a2 L.length c2)=w2 at *;have hSW:=Qh (aC w2.heap.size w2);go_loopw [11] (fun i wr=>∃ (k:Nat) (rs:List (Row 19)),k≤L.length∧i=.int .i64 (k:Nat)∧JQ w wr k L rs∧aG wr (w.heap.size+2) 63 19 Row.en (.slice a2 L.length c2) rs∧Below w.heap.size w wr∧ai wr w.heap.size C2∧wr.heap[w.heap.size+1]? = some (.cells fE 39)) (fun i _=>L.length - (intOf i).toNat)
 case atStart=>
  refine⟨0,rows,bV _,rfl,?_,HO.o,fe.o,T3.o,T2.o⟩;exact⟨XF.o.1,fun j h3 h4=>⟨fun h=>ae,(XF.o.2 j h3 h4).2⟩⟩
 case round=>
  clear f7 HO fe T3 T2 XF yt hSW;obtain⟨k,rs,hk,rfl,wC,hown,bP,t3,t2⟩:=hrel;have RE:=wC.1;have f7:=t3.cell 7 (.slice a2 L.length c2) (by rw[← bo.o];rfl);by_cases hlt:(k:Int) < L.length
  ·have a8:k < L.length:=ae;have RF:k < rs.length:=ae;have bO:=hown.block ae;rw[← RE]at bO;obtain⟨g,cap',hv,iY,hg2,hg3,hg4⟩:=bO;obtain⟨rfl,rfl⟩:a2=some ⟨g,0,none⟩∧c2=cap':=by cases hv;exact⟨rfl,rfl⟩
   clear hv;obtain⟨b',o',e',-,hcell⟩:=bA.cells hown.sl.2 Row.pU ah RF;cases e'
   have JR:=hcell 18 ah;obtain⟨a',n',er,uT⟩:=(wC.2 k a8 RF).2 af;have afs:=uT.keep bP af;unfold Row.en at JR;rw[er]at JR;rw[show((L[k].d.cells (.slice a' L[k].rs.length n')).toList)[18]? = some (.slice a' L[k].rs.length n')from rfl,kF]at JR;have hfr:=hown.free (k*19+18);have cT:=fun (W:World) (hW:xS W a' n' L[k].rs)=>adL L[k].rs L[k].rs.length rfl a' n' W hW (by have:=gi.o _ (gU a8);omega)
   have HK:=Qh (⟨wC,hown,t3,t2,bP⟩:JQ w wr k L rs∧aG wr (w.heap.size+2) 63 19 Row.en (.slice (some ⟨g,0,none⟩) L.length c2) rs∧ai wr w.heap.size C2∧wr.heap[w.heap.size+1]? = some (.cells fE 39)∧Below w.heap.size w wr);have HER:=Qh er;have HSX:=Qh afs;clear wC hown t3 t2 bP er uT afs hcell;generalize hy:L[k]=y at *;have HY:=Qh hy;clear hy;have hw7:w.heap.size < wr.heap.size:=HK.o.2.2.1.lt;have HLR:=Qh RE;clear RE;go_wp2_with fail;refine xt (S:=(fun (w':World)=>w'.cell? ⟨w.heap.size,7,none⟩=some (.slice (some ⟨g,0,none⟩) L.length c2))) aj f7 (fun hHeld=>?_);refine hT 0 ?_;refine aL ?_
   refine hT 1 ?_;refine aL ?_
   refine hT 2 ?_;refine aL ?_
   refine hT 3 ?_;refine aL ?_
   refine hT 4 ?_;refine aL ?_
   refine hT 5 ?_;refine aL ?_
   refine hT 6 ?_;refine aL ?_
   refine hT 7 ?_;refine aL ?_
   refine jS 8 rfl aj (fun K hK=>?_);go_simp;refine hK.o _ _ ?_ (fun hHeld=>?_)
   ·exact f7
   clear hK K;refine E4 ?_;intro K hK
   go_simp;refine jH (cT _ (bA.drew HSX.o)) ?_;intro w3 v ho hb
   refine hK.o _ _ ?_ (fun hHeld=>?_)
   ·exact dx (w:=wr.drew) f7 hb
   clear hK K;obtain⟨a5,c5,rfl,-⟩:=ho.shape;have hb5:Below wr.heap.size wr w3:=(aC wr.heap.size wr).drew.trans hb;refine aL ?_
   refine hT 10 ?_;refine aL ?_
   refine hT 11 ?_;refine aL ?_
   refine jS 12 rfl aj (fun K hK=>?_);have aoK:=dx JR hb5;have aoL:w3.frozen? ⟨g,k*19+18,none⟩=false:=(by rw[aba hb5 hg2];exact hfr);go_simp;have aoM:w.heap.size≠g:=ae;refine hK.o _ _ ?_ (fun FC=>?_)
   ·exact(World.cell?_of_block (dN _ _ _ _ (show w.heap.size≠g from aoM))).trans hHeld
   clear hK K hHeld FC;refine wpAnyH_done aj ?_ _;obtain⟨wC,hown,t3,t2,bP⟩:=HK.o;have BS:=hown.keep hb5 af;obtain⟨Cg,fz,hkg⟩:=zF BS g rfl;have yx:∀ z cs,uO w3 z cs→uO (w3.setCell ⟨g,k*19+18,none⟩ (.slice a5 y.rs.length c5)) z cs:=fun z cs hz=>afu ah _ _ _ _ _ _ _ hz hkg pR (fun b _ hne=>dN _ _ _ _ hne)
   obtain⟨r,hr1⟩:∃ r:Row 19,r.1=rs[k].1.set 18 (.slice a5 y.rs.length c5):=⟨⟨rs[k].1.set 18 (.slice a5 y.rs.length c5),by rw[kD];exact rs[k].2⟩,rfl⟩
   have afv:uO (w3.setCell ⟨g,k*19+18,none⟩ (.slice a5 y.rs.length c5)) y r.1:=yx _ _ ⟨.slice a5 y.rs.length c5,by rw[hr1,HER.o];rfl,ho.fU (bV _)⟩;have hfr2:uO (w3.setCell ⟨g,k*19+18,none⟩ (.slice a5 y.rs.length c5)) L[k] r.1:=(by rw[HY.o];exact afv);have m1:=Qh (wC.next RF a8 r hfr2 (fun z cs hz=>yx _ _ (aoN _ _ _ _ hz hb5)));have m2:=Qh (BS.Qs RF ah (.slice a5 y.rs.length c5) r hr1);have m3:=Qh (pX (aH bP hb5 af) (show w.heap.size≤g by omega) (k*19+18) (.slice a5 y.rs.length c5));have m4:=Qh ((t3.keep hb5 af).other (a:=⟨g,k*19+18,none⟩) (show g≠w.heap.size by omega) (.slice a5 y.rs.length c5));have m5:=Qh (mV (ai.wg t2 hb5) (show w.heap.size+1≠g by omega) (k*19+18) (.slice a5 y.rs.length c5));clear wC hown t3 t2 bP BS hkg yx afv hfr2 HK ho hb hb5 JR aoK hfr aoL f7 cT HSX;go_wp2_with fail;go_roundw;case rel=>exact⟨k+1,rs.set k r,ae,bL,m1.o,m2.o,m3.o,m4.o,m5.o⟩
   case measure=>exact bY
  ·obtain rfl:k=L.length:=by omega
   refine aY wC hown bP ?_;intro Ee HO HB;refine fQ t3 t2 (show ai wr (w.heap.size+1) fE from ⟨_,t2⟩) q0.o ?_;intro T3 K2 T2 q0;have q1:=q1.o;clear wC hown bP t3 t2 RE hlt f7;go_wp2_with (first|(refine fG T3.o 39 (.tmp 1) hu Ik ?_)|(refine iC T2.o 39 (.tmp 2) (.tmp 27) Ik zr q1 ?_))
   have hrun:=fo (T2.o.row C2) 39 _ hu rfl Ik;have bR:=pL HB.o (show w.heap.size≤w.heap.size+1 by omega) C2;refine bB (v:=.agg C2) (by simp[results,results40,Act.put,asAddr,hrun]) rfl ⟨C2,rfl,⟨_,by rw[← bo.o],?_⟩,bR⟩;rw[HL.o];have hne:∀ k,(Value.slice a2 L.length c2).ownBlock=some k→k≠w.heap.size+1:=fun k hk=>by have:=(HO.o.lt k hk).1;omega
   refine⟨rs,(aG.vo HO.o fun k hk=>gK _ _ _ _ (hne k hk)).fU ae,afq _ _ Ee.o.1 fun j h1 h2=>?_⟩;exact afu ah _ _ _ _ _ _ _ ((Ee.o.2 j h1 h2).1 h1) K2.o qX (fun b _ hne=>gK _ _ _ _ hne)
theorem aoO (x:bj) (w:World) (cs:Array Value) (hx:ru w x cs.toList) (hr:x.sigs.length≤4000000) (hr2:∀ s∈x.sigs,s.rs.length≤4000000) :
  Calls prog 40 #[.agg cs] w fun e w'=>∃ C:Array Value,e=.returned (.agg C)∧DO w' x C.toList∧Below w.heap.size w w':=
 (aoJ x w cs hx hr hr2).mono fun e w' ⟨C,h1,⟨v,h2,h3⟩,h4⟩=>⟨C,h1,⟨v,h2,h3.fU (bV _)⟩,h4⟩
def vZ (s:et):et:=⟨{ s.d with line:=0,ak:=0 },s.rs⟩
def iI (m:bj):bj:={ m with line:=0,ak:=0,sigs:=m.sigs.map vZ }
def Qr (t:bK):bK:={ t with line:=0,ak:=0 }
def uI (d:aS):aS:=⟨d.has,if d.has then { d.bG with line:=0,ak:=0 } else ⟨0,0,[]⟩,{ d.aR with line:=0,ak:=0 },d.msgs.map iI,d.tabs.map Qr⟩
def zE (e:Nat) (s:et):et:=if e=0 then ⟨{ s.d with line:=0 },s.rs⟩ else ⟨{ s.d with ak:=0 },s.rs⟩
theorem ajs (e:Nat) (s:et):vZ (zE e s)=vZ s:=by unfold zE;split<;>rfl
theorem ajt (e:Nat) (s:et) (h:vZ s=s):zE e s=s:=by
 obtain⟨d,rs⟩:=s;obtain⟨⟩:=d;unfold vZ at h;simp only[et.mk.injEq,dI.mk.injEq,and_true]at h;obtain⟨rfl,rfl⟩:=h;unfold zE;split<;>rfl
theorem ac2 {α β:Type} (f:α→β) (g:α→α) (hg:∀ x,f (g x)=f x):∀ (l:List α) (k:Nat),(l.modify k g).map f=l.map f
 | [],k=>by cases k<;>rfl
 | x::l,0=>by
  show f (g x)::l.map f=f x::l.map f;rw[hg]
 | x::l,k+1=>by
  show f x::(l.modify k g).map f=f x::l.map f;rw[ac2 f g hg l k]
theorem ac3 {α:Type} (g:α→α):∀ (l:List α) (k:Nat),(∀ x∈l,g x=x)→l.modify k g=l
 | [],k,_=>by cases k<;>rfl
 | x::l,0,h=>by
  show g x::l=x::l;rw[h x aB]
 | x::l,k+1,h=>by
  show x::l.modify k g=x::l;rw[ac3 g l k fun y hy=>h y (Dj _ hy)]
theorem ac4 {α:Type} (g:α→α):∀ (l:List α) (k:Nat) (hk:k < l.length),l.modify k g=l.set k (g l[k])
 | [],k,hk=>by simp at hk
 | x::l,0,_=>rfl
 | x::l,k+1,hk=>by
  show x::l.modify k g=x::l.set k _;rw[ac4 g l k zo];rfl
theorem ac5 {α:Type} (g:α→α):∀ (l:List α) (k:Nat),l.length≤k→l.modify k g=l
 | [],k,_=>by cases k<;>rfl
 | x::l,0,h=>by simp at h
 | x::l,k+1,h=>by
  show x::l.modify k g=x::l;rw[ac5 g l k vK]
theorem aG.ac6 {α:Type} {w:World} {base:Nat} {e:TypeId} {size:Nat} {en:α→List Value} {v:Value} {xs:List α} (h:aG w base e size en v xs) (g j:Nat) (u:Value) (hj:v.ownBlock=some g→xs.length*size≤j):aG (w.setCell ⟨g,j,none⟩ u) base e size en v xs:=by
 refine⟨h.1,?_⟩;rcases h.2 with h0|⟨b,cap,cur,hv,h1,h2,h3,h4,h5,h6⟩
 ·exact .inl h0
 ·refine .inr ?_;by_cases hb:b=g
  ·subst hb;refine⟨b,cap,cur.setIfInBounds j u,hv,h1,setCell_at h2 j u,h3,h4,by simpa using h5,?_⟩;rw[Array.toList_setIfInBounds,List.take_set_of_le (hj (by rw[hv];rfl))];exact h6
  ·exact⟨b,cap,cur,hv,h1,mV h2 hb j u,h3,h4,h5,h6⟩
theorem ac7 {α:Type} (f g:α→α):∀ (l:List α) (k:Nat),(l.modify k f).modify k g=l.modify k fun x=>g (f x)
 | [],k=>by cases k<;>rfl
 | x::l,0=>rfl
 | x::l,k+1=>by
  show x::(l.modify k f).modify k g=x::l.modify k _;rw[ac7 f g l k]
theorem aZ.aju {B:Nat} {w:World} {base:Nat} {v:Value} {sigs:List et} (h:aZ w base 63 (mW B) 19 v sigs) (g k e:Nat) (he:e < 2) {C:Array Value} (hg:w.heap[g]? = some (.cells C 63)) :
  ∃ IX,aZ (w.setCell ⟨g,k*19+e,none⟩ (.int .i64 0)) base 63 (mW B) 19 v IX∧(v.ownBlock=some g→IX = sigs.modify k (zE e))∧(IX = sigs∨IX = sigs.modify k (zE e)):=by
 obtain⟨rows,h1,h2⟩:=h;have hlen:=h2.len;have hs:∀ s cs,mW B w s cs→mW B (w.setCell ⟨g,k*19+e,none⟩ (.int .i64 0)) s cs:=fun s cs ⟨u,e1,ho⟩=>⟨u,e1,ho.setAt hg ah _ _⟩
 by_cases hv:v.ownBlock=some g
 ·by_cases hk:k < rows.length
  ·obtain⟨b,cap,Vz,-⟩:=h1.block ae;have hb:b=g:=(by rw[Vz]at hv;simpa [Value.ownBlock]using hv);subst hb;subst Vz;obtain⟨r,hr⟩:∃ r:Row 19,r.1=rows[k].1.set e (.int .i64 0):=⟨⟨rows[k].1.set e (.int .i64 0),by rw[kD];exact rows[k].2⟩,rfl⟩
   have pW:k < sigs.length:=ae;refine⟨sigs.modify k (zE e),⟨rows.set k r,h1.Qs hk ae _ r hr,?_⟩,fun _=>rfl,.inr rfl⟩;rw[ac4 _ _ _ pW];refine(h2.mono fun s r' hr'=>hs _ _ hr').set ?_;obtain⟨u,e1,ho⟩:=hs _ _ (h2.get pW hk);rw[hr,e1];unfold zE;rcases (show e=0∨e=1 by omega)with rfl|rfl
   ·exact⟨u,rfl,ho⟩
   ·exact⟨u,rfl,ho⟩
  ·refine⟨sigs,⟨rows,h1.ac6 g _ _ fun _=>?_,h2.mono fun s r' hr'=>hs _ _ hr'⟩,fun _=>(ac5 _ _ _ ae).symm,.inl rfl⟩;have:rows.length*19≤k*19:=vL _ ae;omega
 ·exact⟨sigs,⟨rows,h1.ac6 g _ _ fun h=>absurd h hv,h2.mono fun s r' hr'=>hs _ _ hr'⟩,fun h=>absurd h hv,.inl rfl⟩
structure VA (g k e:Nat) (m m':bj) (cs:List Value):Prop where
 bare:iI m' = iI m
 fix:iI m=m→m' = m
 line:m'.line=m.line
 ak:m'.ak=m.ak
 row:∀ v,cs=(m.cells v).toList→cs=(m'.cells v).toList
 own:∀ v,cs=(m.cells v).toList→v.ownBlock=some g→m'.sigs=m.sigs.modify k (zE e)
theorem ajv {m m':bj} {u v:Value} (h:(m.cells u).toList=(m'.cells v).toList):u=v:=by
 have:=jA (fun l:List Value=>l[7]?) h;exact Option.some.inj this
theorem ac8 {B:Nat} {w:World} {m:bj} {cs:List Value} (h:jK B w m cs) (g k e:Nat) (he:e < 2) {C:Array Value} (hg:w.heap[g]? = some (.cells C 63)) :
  ∃ m',jK B (w.setCell ⟨g,k*19+e,none⟩ (.int .i64 0)) m' cs∧VA g k e m m' cs:=by
 obtain⟨v,rfl,ho⟩:=h;obtain⟨IX,h1,h3,h2⟩:=ho.aju g k e he hg;refine⟨{ m with sigs:=IX },⟨v,rfl,h1⟩,⟨?_,fun hz=>?_,rfl,rfl,fun u hu=>hu,fun u hu hb=>?_⟩⟩
 ·unfold iI;rcases h2 with rfl|rfl
  ·rfl
  ·simp only[ac2 vZ (zE e) (ajs e)]
 ·rcases h2 with rfl|rfl
  ·rfl
  ·have hs:m.sigs.map vZ=m.sigs:=jA bj.sigs hz;have hall:∀ s∈m.sigs,zE e s=s:=fun s FF=>by
    obtain⟨j,hj,rfl⟩:=List.mem_iff_getElem.1 FF;refine ajt e _ ?_;have:=jA (fun l=>l[j]?) hs;simp only[List.getElem?_map,kC hj,Option.map_some,Option.some.injEq]at this;exact this
   rw[ac3 _ _ _ hall]
 ·have:=ajv hu;subst this;exact h3 hb
theorem iM.change {α β:Type} {R R':α→β→Prop} {P:α→α→β→Prop} {xs:List α} {ys:List β} (h:iM R xs ys) (hs:∀ x y,R x y→∃ x',R' x' y∧P x x' y) :
  ∃ xs',iM R' xs' ys∧xs'.length=xs.length∧∀ j (h1:j < xs.length) (h2:j < xs'.length) (h3:j < ys.length),P xs[j] xs'[j] ys[j]:=by
 induction h with
 | nil=>exact⟨[],.nil,rfl,fun j h1=>by simp at h1⟩
 | cons a _ ih=>
  obtain⟨x',h1,h2⟩:=hs _ _ a;obtain⟨xs',h3,h4,h5⟩:=ih;refine⟨x' :: xs',.cons h1 h3,by simp[h4],fun j k1 k2 k3=>?_⟩;cases j with
  | zero=>exact h2
  | succ j=>exact h5 j (by simpa using k1) (by simpa using k2) (by simpa using k3)
theorem aZ.struck {B:Nat} {w:World} {base:Nat} {vm v:Value} {ms:List bj} (h:aZ w base 39 (jK B) 8 vm ms) {i k g:Nat} {C:Array Value} (hg:w.heap[g]? = some (.cells C 63)) (hi:i < ms.length)
  (hv:∃ b cap,vm=.slice (some ⟨b,0,none⟩) ms.length cap∧w.rangeAt b (i*8) (ms[i].cells v).toList) (hb:v.ownBlock=some g) :
  ∃ iO,aZ ((w.setCell ⟨g,k*19,none⟩ (.int .i64 0)).setCell ⟨g,k*19+1,none⟩ (.int .i64 0)) base 39 (jK B) 8 vm iO∧iO.length=ms.length∧iO.map iI=ms.map iI ∧
   (∀ j (h1:j < ms.length) (h2:j < iO.length),iI ms[j]=ms[j]→iO[j]=ms[j])∧(∀ h2:i < iO.length,iO[i].sigs=ms[i].sigs.modify k vZ∧iO[i].line=ms[i].line∧iO[i].ak=ms[i].ak):=by
 obtain⟨rows,h1,h2⟩:=h;have hlen:=h2.len;have hg2:=setCell_at hg (k*19+0) (.int .i64 0);obtain⟨m1,a1,l1,p1⟩:=h2.change (P:=fun x x' (r:Row 8)=>VA g k 0 x x' r.1) fun x r hr=>ac8 hr g k 0 ah hg
 obtain⟨m2,a2,l2,p2⟩:=a1.change (P:=fun x x' (r:Row 8)=>VA g k 1 x x' r.1) fun x r hr=>ac8 hr g k 1 ah hg2
 have hr:rows[i].1=(ms[i].cells v).toList:=by
  obtain⟨b,cap,rfl,hrg⟩:=hv;obtain⟨a,c,IY,hs⟩:=h1.shape;obtain⟨b2,o,rfl,hb2,hc⟩:=bA.cells hs Row.pU ah (show i < rows.length by omega);simp only[Value.slice.injEq,Option.some.injEq,Addr.mk.injEq]at IY;obtain⟨⟨rfl,rfl,-⟩,-,-⟩:=IY;refine List.ext_getElem? fun j=>?_
  by_cases hj:j < 8
  ·have e1:=hc j hj;rw[kF]at e1;have e2:=hrg j _ (kC (show j < (ms[i].cells v).toList.length from hj));rw[e2]at e1;rw[kC (show j < (ms[i].cells v).toList.length from hj)];exact e1.symm
  ·rw[Fp (by rw[rows[i].2];omega),Fp (show(ms[i].cells v).toList.length≤j by show 8≤j;omega)]
 refine⟨m2,⟨rows,?_,a2⟩,ae,?_,fun j k1 k2 hz=>?_,fun k2=>?_⟩
 ·exact(h1.dn ah hg (fun b _ hne=>dN _ _ _ _ hne)).dn ah hg2 (fun b _ hne=>dN _ _ _ _ hne)
 ·refine List.ext_getElem cO fun j k1 k2=>?_
  simp only[iw]at k1 k2;simp only[Bz];rw[(p2 j ae ae ae).bare,(p1 j ae ae ae).bare]
 ·have q1:=(p1 j ae ae ae).fix hz;have q2:=(p2 j ae ae ae).fix (by rw[q1];exact hz);rw[q2,q1]
 ·have P1:=p1 i ae ae ae;have P2:=p2 i ae ae ae;refine⟨?_,by rw[P2.line,P1.line],by rw[P2.ak,P1.ak]⟩;rw[P2.own v (P1.row v hr) hb,P1.own v hr hb,ac7]
  congr 1
theorem aZ.Qt {α:Type} {rd:World→α→List Value→Prop} {w:World} {base:Nat} {T:TypeId} {n:Nat} {vm:Value} {xs:List α} (h:aZ w base T rd n vm xs) (hn:0 < n) {i:Nat} (hi:i < xs.length) :
  ∃ b cap,vm=.slice (some ⟨b,0,none⟩) xs.length cap∧base≤b∧b < w.heap.size∧(∃ C,w.heap[b]? = some (.cells C T))∧∃ cs:List Value,cs.length=n∧rd w xs[i] cs∧w.rangeAt b (i*n) cs:=by
 obtain⟨rows,h1,h2⟩:=h;have hlen:=h2.len;have hi':i < rows.length:=ae;rcases h1.2 with ⟨hv,h0⟩|⟨g,cap,cur,hv,hb,hg,-⟩
 ·omega
 ·obtain⟨a,c,IY,hs⟩:=h1.shape;obtain⟨b2,o,rfl,hb2,hc⟩:=bA.cells hs Row.pU hn hi';rw[hv]at IY;simp only[Value.slice.injEq,Option.some.injEq,Addr.mk.injEq]at IY;obtain⟨⟨rfl,rfl,-⟩,-,-⟩:=IY;refine⟨g,cap,by rw[hv,hlen],hb,(gE hg),⟨cur,hg⟩,rows[i].1,rows[i].2,h2.get hi hi',fun j v hv'=>?_⟩;have hj:j < n:=by
   have:=(zt.1 hv').1;rw[rows[i].2]at this;exact this
  have:=hc j hj;rw[kF]at this;rw[this];exact hv'
theorem aZ.place {α:Type} {rd:World→α→List Value→Prop} {w:World} {base:Nat} {T:TypeId} {n m b cap:Nat} {xs:List α} (h:aZ w base T rd n (.slice (some ⟨b,0,none⟩) m cap) xs) (ha:kI rd T) (hn:1 < n) {i:Nat} (hi:i < xs.length) (x':α)
  (hx:∀ w' cs,rd w' xs[i] cs→rd w' x' ((cs.set 0 (.int .i64 0)).set 1 (.int .i64 0))) :
  aZ ((w.setCell ⟨b,i*n,none⟩ (.int .i64 0)).setCell ⟨b,i*n+1,none⟩ (.int .i64 0)) base T rd n (.slice (some ⟨b,0,none⟩) m cap) (xs.set i x'):=by
 obtain⟨rows,h1,h2⟩:=h;have hlen:=h2.len;have hi':i < rows.length:=ae;obtain⟨c,hg⟩:∃ c,w.heap[b]? = some (.cells c T):=by
  rcases h1.2 with ⟨hv,h0⟩|⟨g,cap,cur,hv,hb,hg,-⟩
  ·omega
  ·simp only[Value.slice.injEq,Option.some.injEq,Addr.mk.injEq]at hv;obtain⟨⟨rfl,-,-⟩,-,-⟩:=hv;exact⟨cur,hg⟩
 have hg2:=setCell_at hg (i*n+0) (.int .i64 0);obtain⟨r,hr⟩:∃ r:Row n,r.1=rows[i].1.set 0 (.int .i64 0):=⟨⟨rows[i].1.set 0 (.int .i64 0),by rw[kD];exact rows[i].2⟩,rfl⟩
 obtain⟨r2,hr2⟩:∃ r2:Row n,r2.1=r.1.set 1 (.int .i64 0):=⟨⟨r.1.set 1 (.int .i64 0),by rw[kD];exact r.2⟩,rfl⟩
 have o1:=h1.Qs hi' (show 0 < n by omega) (.int .i64 0) r hr;have o2:=o1.Qs (k:=i) (by rw[kD];exact hi') hn (.int .i64 0) r2 (by rw[hr2,List.getElem_set_self]);rw[List.set_set]at o2;refine⟨rows.set i r2,o2,?_⟩;have hk:∀ x cs,rd w x cs→rd ((w.setCell ⟨b,i*n+0,none⟩ (.int .i64 0)).setCell ⟨b,i*n+1,none⟩ (.int .i64 0)) x cs:=fun x cs ep=>
  ha _ _ _ _ _ _ _ (ha _ _ _ _ _ _ _ ep hg pR (fun k _ hne=>dN _ _ _ _ hne)) hg2 pR (fun k _ hne=>dN _ _ _ _ hne)
 refine(h2.mono fun x r' hr'=>hk _ _ hr').set ?_;rw[hr2,hr];exact hx _ _ (hk _ _ (h2.get hi hi'))
theorem ajw {B:Nat} {w:World} {m:bj} {cs:List Value} (h:jK B w m cs):jK B w { m with line:=0,ak:=0 } ((cs.set 0 (.int .i64 0)).set 1 (.int .i64 0)):=by
 obtain⟨v,rfl,ho⟩:=h;exact⟨v,rfl,ho⟩
theorem ajx {B:Nat} {w:World} {t:bK} {cs:List Value} (h:nN B w t cs):nN B w { t with line:=0,ak:=0 } ((cs.set 0 (.int .i64 0)).set 1 (.int .i64 0)):=by
 obtain⟨v,rfl,ho⟩:=h;exact⟨v,rfl,ho⟩
def aX.ty:aX→TypeId
 | .bG _=>26
 | .aR _=>29
 | .msg _=>39
 | .tab _=>43
def aX.jD:aX→Nat
 | .bG _=>1
 | .aR _=>2
 | .msg _=>3
 | .tab _=>4
def aX.JS:aX→List UInt8
 | .bG _=>[118,101,114,115,105,111,110]
 | .aR _=>[115,116,97,116,105,111,110,115]
 | .msg _=>[109,101,115,115,97,103,101]
 | .tab _=>[116,97,98,108,101]
theorem aoV {w:World} {x:bj} {cs:List Value} (h:ru w x cs):cs.toArray.size=8∧cs.toArray.all (·.oneCell')=true:=by
 obtain⟨a,cap,rfl,-⟩:=h;exact⟨rfl,by simpa using bj.cells_one x a x.sigs.length cap⟩
theorem aoW {w:World} {x:bK} {cs:List Value} (h:su w x cs):cs.toArray.size=6∧cs.toArray.all (·.oneCell')=true:=by
 obtain⟨a,cap,rfl,-⟩:=h;exact⟨rfl,by simpa using bK.cells_one x a x.rows.length cap⟩
theorem RQ {P:Program} {t:TypeId} {fs:Array Field} (hu:P.underlying t=some (.struct fs)) (v:Value) (xT:TypeId) (w:World):(Instr.typeAssert (.iface t v) xT t true).run P w=.ok (.tuple #[v,.bool true]) w:=by
 refine Uw ?_;simp
theorem wD {P:Program} {t s:TypeId} {fs:Array Field} {z:Value} (hu:P.underlying s=some (.struct fs)) (hz:(P.info? s).map (·.zero)=some (some z)) (hne:t≠s) (v:Value) (xT:TypeId) (w:World):(Instr.typeAssert (.iface t v) xT s true).run P w=.ok (.tuple #[z,.bool false]) w:=by
 obtain⟨i,hi,hz⟩:=IB.1 hz;refine Uw ?_;simp[hne,zeroValue,typeInfo,hi,hz]
theorem afw (v:Value) (xT:TypeId) (w:World):(Instr.typeAssert (.iface 26 v) xT 26 true).run prog w=.ok (.tuple #[v,.bool true]) w:=RQ underlying26 v xT w
theorem afx (v:Value) (xT:TypeId) (w:World):(Instr.typeAssert (.iface 26 v) xT 29 true).run prog w=.ok (.tuple #[.agg tI,.bool false]) w:=wD underlying29 aj ah v xT w
theorem afy (v:Value) (xT:TypeId) (w:World):(Instr.typeAssert (.iface 26 v) xT 39 true).run prog w=.ok (.tuple #[.agg fE,.bool false]) w:=wD underlying39 aj ah v xT w
theorem afz (v:Value) (xT:TypeId) (w:World):(Instr.typeAssert (.iface 26 v) xT 43 true).run prog w=.ok (.tuple #[.agg iD,.bool false]) w:=wD underlying43 aj ah v xT w
theorem afA (v:Value) (xT:TypeId) (w:World):(Instr.typeAssert (.iface 29 v) xT 26 true).run prog w=.ok (.tuple #[.agg #[.int .i64 0,.int .i64 0,.string ⟨#[]⟩],.bool false]) w:=wD underlying26 aj ah v xT w
theorem afB (v:Value) (xT:TypeId) (w:World):(Instr.typeAssert (.iface 29 v) xT 29 true).run prog w=.ok (.tuple #[v,.bool true]) w:=RQ underlying29 v xT w
theorem afC (v:Value) (xT:TypeId) (w:World):(Instr.typeAssert (.iface 29 v) xT 39 true).run prog w=.ok (.tuple #[.agg fE,.bool false]) w:=wD underlying39 aj ah v xT w
theorem afD (v:Value) (xT:TypeId) (w:World):(Instr.typeAssert (.iface 29 v) xT 43 true).run prog w=.ok (.tuple #[.agg iD,.bool false]) w:=wD underlying43 aj ah v xT w
theorem afE (v:Value) (xT:TypeId) (w:World):(Instr.typeAssert (.iface 39 v) xT 26 true).run prog w=.ok (.tuple #[.agg #[.int .i64 0,.int .i64 0,.string ⟨#[]⟩],.bool false]) w:=wD underlying26 aj ah v xT w
theorem afF (v:Value) (xT:TypeId) (w:World):(Instr.typeAssert (.iface 39 v) xT 29 true).run prog w=.ok (.tuple #[.agg tI,.bool false]) w:=wD underlying29 aj ah v xT w
theorem afG (v:Value) (xT:TypeId) (w:World):(Instr.typeAssert (.iface 39 v) xT 39 true).run prog w=.ok (.tuple #[v,.bool true]) w:=RQ underlying39 v xT w
theorem afH (v:Value) (xT:TypeId) (w:World):(Instr.typeAssert (.iface 39 v) xT 43 true).run prog w=.ok (.tuple #[.agg iD,.bool false]) w:=wD underlying43 aj ah v xT w
theorem afI (v:Value) (xT:TypeId) (w:World):(Instr.typeAssert (.iface 43 v) xT 26 true).run prog w=.ok (.tuple #[.agg #[.int .i64 0,.int .i64 0,.string ⟨#[]⟩],.bool false]) w:=wD underlying26 aj ah v xT w
theorem afJ (v:Value) (xT:TypeId) (w:World):(Instr.typeAssert (.iface 43 v) xT 29 true).run prog w=.ok (.tuple #[.agg tI,.bool false]) w:=wD underlying29 aj ah v xT w
theorem afK (v:Value) (xT:TypeId) (w:World):(Instr.typeAssert (.iface 43 v) xT 39 true).run prog w=.ok (.tuple #[.agg fE,.bool false]) w:=wD underlying39 aj ah v xT w
theorem afL (v:Value) (xT:TypeId) (w:World):(Instr.typeAssert (.iface 43 v) xT 43 true).run prog w=.ok (.tuple #[v,.bool true]) w:=RQ underlying43 v xT w
theorem RP (n:aX) (C:Array Value) (w:World) :
  Calls prog 38 #[.iface n.ty (.agg C)] w fun e w'=>e=.returned (.agg #[.int .i64 (n.jD:Nat),.string ⟨n.JS.toArray⟩])∧Below w.heap.size w w':=by
 cases n
 all_goals
  unfold aX.ty aX.jD aX.JS;simp only;have hVV:=afw;have M5:=afx;have hVM:=afy;have hVT:=afz;have RN:=afA;have hSS:=afB;have hSM:=afC;have hST:=afD;have hMV:=afE;have hMS:=afF;have hMM:=afG;have hMT:=afH;have hTV:=afI;have hTS:=afJ;have hTM:=afK;have hTT:=afL;go_enter func38,ntmps38
  go_wp2_with fail;refine bB (v:=.agg #[_,_]) (by simp[results,results38,go_sem]) rfl ⟨rfl,?_⟩;exact(aC w.heap.size w).alloc af _
inductive DZ where
 | bad (no at':Nat)
 | good (d:aS)
def aS.zero:aS:=⟨false,⟨0,0,[]⟩,⟨0,0,[]⟩,[],[]⟩
def aS.add (d:aS):aX→aS
 | .bG v=>{ d with has:=true,bG:=v }
 | .aR s=>{ d with aR:=s }
 | .msg m=>{ d with msgs:=d.msgs++[m] }
 | .tab t=>{ d with tabs:=d.tabs++[t] }
def oG (i last:Nat) (n:aX):Bool:=decide (n.jD < last) || ((n.jD == 1 && decide (0 < i)) || ((n.jD == 2 && decide (2≤last)) || (decide (2 < n.jD) && !decide (2≤last))))
def pk:Nat→Nat→aS→List aX→DZ
 | i,last,d,[]=>if last < 2 then .bad 2 i else .good d
 | i,last,d,n::l=>if oG i last n then .bad 4 i else pk (i+1) n.jD (d.add n) l
def RG:aX→Prop
 | .bG _=>True
 | .aR s=>s.names.length≤4000000
 | .msg m=>m.sigs.length≤4000000∧∀ s∈m.sigs,s.rs.length≤4000000
 | .tab t=>t.rows.length≤4000000
def aoP (w:World) (R:DZ) (v:Value):Prop:=match R with
 | .bad no i=>v=.tuple #[.agg bf,.iface 102 (.agg #[.int .i64 (no:Nat),.int .i64 0,.int .i64 (i:Nat)])]
 | .good d=>∃ C:Array Value,v=.tuple #[.agg C,.nilIface]∧Ja w d C.toList
structure lT (w0:World) (base:Nat) (ns:List (List UInt8)) (ms:List bj) (ts:List bK) (w:World) (D:Array Value) (u v z:Value):Prop where
 cL:Below base w0 w
 res:w.heap[base]? = some (.cells bf 33)
 blk:w.heap[base+1]? = some (.cells D 33)
 names:aG w 0 9 1 dr u ns
 msgs:aZ w base 39 DO 8 v ms
 tabs:aZ w base 43 DR 6 z ts
section
variable {w0:World} {base:Nat} {ns:List (List UInt8)} {ms:List bj} {ts:List bK} {w w':World} {D:Array Value} {u v z:Value}
theorem lT.lt (h:lT w0 base ns ms ts w D u v z):base+1 < w.heap.size:=(gE h.blk)
theorem lT.keep (h:lT w0 base ns ms ts w D u v z) (hb:Below w.heap.size w w'):lT w0 base ns ms ts w' D u v z:=
 ⟨h.cL.trans (hb.mono (by have:=h.lt;omega)),ai.wg h.res hb,ai.wg h.blk hb,h.names.keep hb af,h.msgs.keep RH hb,h.tabs.keep RI hb⟩
theorem lT.alloc (h:lT w0 base ns ms ts w D u v z) (o:Obj):lT w0 base ns ms ts (w.alloc o) D u v z:=h.keep ((aC w.heap.size w).alloc af o)
theorem lT.drew (h:lT w0 base ns ms ts w D u v z):lT w0 base ns ms ts w.drew D u v z:=h.keep (aC w.heap.size w).drew
theorem lT.set (h:lT w0 base ns ms ts w D u v z) (j:Nat) (x:Value):lT w0 base ns ms ts (w.setCell ⟨base+1,j,none⟩ x) (D.setIfInBounds j x) u v z:=
 ⟨pX h.cL (Nat.le_succ _) j x,mV h.res (show base≠base+1 by omega) j x,setCell_at h.blk j x,h.names.setAt h.blk ah j x,h.msgs.setAt h.blk ah (RJ ah ah) j x,h.tabs.setAt h.blk ah (RM ah) j x⟩
theorem lT.aoQ (h:lT w0 base ns ms ts w D u v z) {ns':List (List UInt8)} {u':Value} (hu:aG w 0 9 1 dr u' ns'):lT w0 base ns' ms ts w D u' v z:=⟨h.cL,h.res,h.blk,hu,h.msgs,h.tabs⟩
theorem lT.aoR (h:lT w0 base ns ms ts w D u v z) {v':Value} {m:bj} (hv:aZ w' base 39 DO 8 v' (ms++[m])) (bP:Below base w0 w') (hg:w.grownBy w' v.ownBlock):lT w0 base ns (ms++[m]) ts w' D u v' z:=by
 obtain⟨rows,hr,-⟩:=h.msgs;exact⟨bP,jQ h.res hr ah hg,jQ h.blk hr ah hg,h.names.nH hr ah hg,hv,h.tabs.nH hr ah RI (RM ah) hg⟩
theorem lT.aoS (h:lT w0 base ns ms ts w D u v z) {z':Value} {m:bK} (hv:aZ w' base 43 DR 6 z' (ts++[m])) (bP:Below base w0 w') (hg:w.grownBy w' z.ownBlock):lT w0 base ns ms (ts++[m]) w' D u v z':=by
 obtain⟨rows,hr,-⟩:=h.tabs;exact⟨bP,jQ h.res hr ah hg,jQ h.blk hr ah hg,h.names.nH hr ah hg,h.msgs.nH hr ah RH (RJ ah ah) hg,hv⟩
end
theorem TT:bf.all (·.oneCell')=true:=uz
theorem aoT (a b:Value) (w:World):(Instr.field 114 (.agg #[a,b]) 0).run prog w=.ok a w:=by
 unfold Instr.field;simp[rT,run_underlying underlying114,asAgg,part,isAgg,run_underlying underlying3,Result.andThen]
theorem aoU (l:List aX) (hl:∀ n∈l,RG n) (n:Nat) (hn:n=l.length) (hr:l.length≤100000000) (a:Option Addr) (cap:Nat) (w:World) (hs:ei w wu 1 a cap l) :
  Calls prog 20 #[.slice a n cap] w fun e w'=>∃ v,e=.returned v∧aoP w' (pk 0 0 aS.zero l) v∧Below w.heap.size w w':=by
 subst hn;obtain⟨R,hR⟩:∃ R,R=pk 0 0 aS.zero l:=⟨_,rfl⟩
 rw[← hR];have HR:=Qh hR;have hu:=underlying33;have hfk:=aoT;clear hR;have hVV:=afw;have M5:=afx;have hVM:=afy;have hVT:=afz;have RN:=afA;have hSS:=afB;have hSM:=afC;have hST:=afD;have hMV:=afE;have hMS:=afF;have hMM:=afG;have hMT:=afH;have hTV:=afI;have hTS:=afJ;have hTM:=afK;have hTT:=afL;go_enter func20,ntmps20
 go_wp2_with fail;go_loopw [3,5,16] (fun er lv i wr=>∃ (k last:Nat) (d:aS) (u v z:Value),k≤l.length∧er=.nilIface∧i=.int .i64 (k:Nat)∧lv=.int .i64 (last:Nat)∧last≤4∧(0 < k→1≤last)∧(k=0→last=0)∧R=pk k last d (l.drop k)∧d.msgs.length≤k∧d.tabs.length≤k∧lT w w.heap.size d.aR.names d.msgs d.tabs wr (d.cells u v z) u v z) (fun _ _ i _=>l.length - (intOf i).toNat)
 case atStart=>
  refine⟨0,0,aS.zero,.slice none 0 0,.slice none 0 0,.slice none 0 0,bV _,rfl,rfl,rfl,ah,fun h=>ae,fun _=>rfl,by rw[HR.o];rfl,by simp[aS.zero],by simp[aS.zero],?_⟩;obtain⟨h1,h2,h3,h4⟩:=rj w bf bf 33 33;refine⟨h4,?_,?_,aG.nil _ _ _ _ _,aZ.nil _ _ _ _ _,aZ.nil _ _ _ _ _⟩
  ·show((w.alloc (.cells bf 33)).alloc (.cells bf 33)).heap[w.heap.size]? = _;rw[zG _ _ _ aB];exact dK w _
  ·have h5:=dK (w.alloc (.cells bf 33)) (.cells bf 33);rw[jW]at h5;exact h5
 case round=>
  obtain⟨k,last,d,u,v,z,hk,rfl,rfl,rfl,XG,pZ,hk0,uW,hm1,RO,hg⟩:=hrel;have au1:=hg.lt;by_cases hlt:(k:Int) < l.length
  ·have a8:k < l.length:=ae;obtain⟨bb,oo,rfl,hb,cs,hcl,ep,hrg⟩:=ei.at (hs.keep B3 hg.cL) ah a8;have o8:=hl _ (gU a8);rw[jq a8]at uW;unfold pk at uW;generalize l[k]=y at *;have uJ:=Qh uW;have HG:=Qh hg;clear uW hg;cases y with
   | bG y=>
    obtain rfl:cs=[.iface 26 (.agg #[.int .i64 y.line,.int .i64 y.ak,.string ⟨y.text.toArray⟩])]:=ep;have hc:wr.cell? ⟨bb,oo+k,none⟩=some (.iface 26 (.agg #[.int .i64 y.line,.int .i64 y.ak,.string ⟨y.text.toArray⟩])):=(by simpa using hrg 0 _ rfl);have ck:=fun W=>RP (.bG y) #[.int .i64 y.line,.int .i64 y.ak,.string ⟨y.text.toArray⟩] W
    simp only[aX.ty,aX.jD,aX.JS]at ck;clear hrg hcl;go_wp2_with fail;refine Pg (ck _) ?_;intro w1 hb1 iY B2
    have B4:ai w1 (w.heap.size+1) (d.cells u v z):=⟨_,iY.blk⟩
    have uh:=Qh iY;have bX:=Qh hb1;clear hb1 iY ck hc HG;by_cases h0:(0:Int) < k
    ·clear B4;by_cases h1:(1:Int) < last;all_goals
      exact KR (show R=.bad 4 k by rw[uJ.o];unfold oG;rw[fy (show 0 < k by omega)];simp[aX.jD]) (fo (B2.row bf) 33 _ hu rfl jw)
    ·obtain rfl:k=0:=by omega
     obtain rfl:last=0:=hk0 rfl;have HV:=Qh (show R=pk 1 1 (d.add (.bG y)) (l.drop 1)by rw[uJ.o];rfl);have c0:=B4.cell 0 _ rfl;have r0:=B4.free 0;have c1:=B4.cell 1 _ rfl;have r1:=B4.free 1;have c2:=B4.cell 2 _ rfl;have r2:=B4.free 2;have c3:=B4.cell 3 _ rfl;have r3:=B4.free 3;have afM:=B4.lt;clear B4 B2 hs;go_wp2_with fail;go_region_with fail
     all_goals
      go_wp2_with fail;go_roundw;case rel=>
       refine⟨1,1,d.add (.bG y),u,v,z,ae,rfl,rfl,rfl,ae,fun _=>ae,fun h=>ae,HV.o,P6,P6,?_⟩;first
        | exact((((uh.o.set 0 (.bool true)).set 1 (.int .i64 y.line)).set 2 (.int .i64 y.ak)).set 3 (.string ⟨y.text.toArray⟩)).alloc _ |>.drew
        | exact((((uh.o.set 1 (.int .i64 y.line)).set 2 (.int .i64 y.ak)).set 3 (.string ⟨y.text.toArray⟩)).set 0 (.bool true)).alloc _ |>.drew
      case measure=>exact bY
   | aR y=>
    obtain⟨C,rfl,ep⟩:=ep;obtain⟨a',c',eC,uT⟩:=ep;have Qe:C=#[.int .i64 y.line,.int .i64 y.ak,.slice a' y.names.length c']:=eA.1 eC;clear eC;subst Qe;have o8:y.names.length≤4000000:=o8;have hc:wr.cell? ⟨bb,oo+k,none⟩=some (.iface 29 (.agg #[.int .i64 y.line,.int .i64 y.ak,.slice a' y.names.length c'])):=(by simpa using hrg 0 _ rfl);have ck:=fun W=>RP (.aR y) #[.int .i64 y.line,.int .i64 y.ak,.slice a' y.names.length c'] W
    simp only[aX.ty,aX.jD,aX.JS]at ck;clear hrg hcl;go_wp2_with fail;refine Pg (ck _) ?_;intro w1 hb1 iY B2
    have B4:ai w1 (w.heap.size+1) (d.cells u v z):=⟨_,iY.blk⟩
    have uh:=Qh iY;have bX:=Qh hb1;clear hb1 iY ck hc HG;have cS:=Qh (fun W (h:Below wr.heap.size wr W)=>aoG y W #[.int .i64 y.line,.int .i64 y.ak,.slice a' y.names.length c'] ⟨a',c',rfl,uT.keep h af⟩ ae);clear uT;by_cases h0:(2:Int)≤last
    ·clear B4 cS;by_cases h1:(2:Int) < last;all_goals
      exact KR (show R=.bad 4 k by rw[uJ.o];unfold oG;rw[fy (show 2≤last by omega)];simp[aX.jD]) (fo (B2.row bf) 33 _ hu rfl jw)
    ·have h1:¬ (2:Int) < last:=ae;have HV:=Qh (show R=pk (k+1) 2 (d.add (.aR y)) (l.drop (k+1))by rw[uJ.o];unfold oG;rw[dU (show ¬ 2≤last by omega),dU (show ¬ (aX.aR y).jD < last by simp only[aX.jD];omega)];rfl);have c4:=B4.cell 4 _ rfl;have r4:=B4.free 4;have c5:=B4.cell 5 _ rfl;have r5:=B4.free 5;have c6:=B4.cell 6 _ rfl;have r6:=B4.free 6;have afM:=B4.lt;have bh:=aH bX.o ((aC w1.heap.size w1).alloc af (.cells #[.int .i64 y.line,.int .i64 y.ak,.slice a' y.names.length c'] 29)) af;have hg2:=uh.o.alloc (.cells #[.int .i64 y.line,.int .i64 y.ak,.slice a' y.names.length c'] 29);have Ag:=Qh hg2;clear B4 B2 hs hg2;generalize y.names.length=n1 at *;go_wp2_with fail;refine jH (cS.o _ bh) ?_;intro w3 C3 dP hb3
     obtain⟨u',eC3,ho⟩:=dP;obtain⟨a3,c3,rfl,-⟩:=ho.shape;obtain rfl:=eA.1 eC3;have JT:=Qh (Ag.o.keep hb3);have B5:ai w3 (w.heap.size+1) (d.cells u v z):=⟨_,JT.o.blk⟩
     clear c4 c5 c6 r4 r5 r6 afM bh cS;have c4:=B5.cell 4 _ rfl;have c5:=B5.cell 5 _ rfl;have c6:=B5.cell 6 _ rfl;have r4:=B5.free 4;have r5:=B5.free 5;have r6:=B5.free 6;have HO:=Qh ho;clear B5 hb3 ho eC3;unfold fH.cells;go_wp2_with fail;go_roundw;case rel=>
      refine⟨k+1,2,d.add (.aR y),.slice a3 y.names.length c3,v,z,ae,rfl,bL,rfl,ae,fun _=>ae,fun h=>ae,HV.o,P6,P6,?_⟩;exact((((JT.o.aoQ HO.o).set 4 (.int .i64 y.line)).set 5 (.int .i64 y.ak)).set 6 (.slice a3 y.names.length c3))
     case measure=>exact bY
   | msg y=>
    obtain⟨C,rfl,ep⟩:=ep;obtain⟨yy,gN⟩:=aoV ep;have yy:C.size=8:=yy;have gN:C.all (·.oneCell')=true:=gN;have o8:=o8;unfold RG at o8;have hc:wr.cell? ⟨bb,oo+k,none⟩=some (.iface 39 (.agg C)):=(by simpa using hrg 0 _ rfl);have ck:=fun W=>RP (.msg y) C W
    simp only[aX.ty,aX.jD,aX.JS]at ck;clear hrg hcl;go_wp2_with fail;refine Pg (ck _) ?_;intro w1 hb1 iY B2
    refine aY iY (fun W (h:Below wr.heap.size wr W)=>aoO y W C (iE _ _ _ _ ep h) o8.1 o8.2) hb1 ?_;intro uh cM bX;clear hb1 iY ck hc HG ep;by_cases h0:(3:Int) < last
    ·clear cM;exact KR (show R=.bad 4 k by rw[uJ.o];unfold oG;rw[fy (show(aX.msg y).jD < last by simp only[aX.jD];omega)];rfl) (fo (B2.row bf) 33 _ hu rfl jw)
    by_cases h2:¬ (2:Int)≤last
    ·clear cM;have hb2:decide ((2:Int)≤(last:Nat))=false:=dU h2;exact KR (show R=.bad 4 k by rw[uJ.o];unfold oG;rw[dU (show ¬ 2≤last by omega)];simp[aX.jD]) (fo (B2.row bf) 33 _ hu rfl jw)
    have HV:=Qh (show R=pk (k+1) 3 (d.add (.msg y)) (l.drop (k+1))by rw[uJ.o];unfold oG;rw[fy (show 2≤last by omega),dU (show ¬ (aX.msg y).jD < last by simp only[aX.jD];omega)];rfl);have hb2:decide ((2:Int)≤(last:Nat))=true:=fy ae;obtain⟨nb,-,cH⟩:=ri w1 C 39;have Ag:=Qh (uh.o.alloc (.cells C 39));have bh:=aH bX.o cH af;clear cH uh bX uJ;have IJ:=underlying39;have Nf:ai (w1.alloc (.cells fE 39)) w1.heap.size fE:=ai.new _ _ _;go_wp2_with (refine iC (cs:=C) Nf 39 (.tmp 12) (.tmp 76) (by rw[yy];exact ql) (by rw[yy];rfl) gN ?_)
    clear Nf;rw[World.setRow_alloc_new];have hcv:=(show ai (w1.alloc (.cells C 39)) (w.heap.size+1) (d.cells u v z)from ⟨_,Ag.o.blk⟩).cell 7 v rfl;generalize w1.alloc (.cells C 39)=W2 at *;refine wX 7 (fun (w':World)=>w'.cell? ⟨w.heap.size+1,7,none⟩=some v) aj hcv (fun hHeld=>?_);refine hL 0 ?_;refine aL ?_
    refine hL 1 ?_;refine aL ?_
    refine CT 2 rfl aj (fun K hK=>?_);refine ael (k:=w1.heap.size) (cs:=C) nb 39 (.tmp 12) IJ (by rw[yy];exact ql) ?_;clear hHeld;refine hK.o _ _ ?_ (fun hHeld=>?_)
    ·exact hcv
    clear hK K;refine zg ?_;intro K hK
    go_simp;refine jH (cM.o W2.drew bh.drew) ?_;intro w3 D6 dP hb3
    clear hHeld;refine hK.o _ _ ?_ (fun hHeld=>?_)
    ·exact dx (w:=W2.drew) hcv hb3
    clear hK K;refine zh ?_;intro K hK
    have gX:D6.size=8:=(by have:=adP dP;rwa [Bu]at this);have jB:=adQ dP;have p7:=ze fE D6 8 gX rfl;have JT:=Qh (Ag.o.drew.keep hb3);have Ng:=dx (w:=W2.drew) hcv hb3;have Nh:=dx Ng ((aC w3.heap.size w3).alloc af (.cells D6 39));go_simp;clear hHeld;refine hK.o _ _ ?_ (fun hHeld=>?_)
    ·exact Nh
    clear hK K;refine CU ?_;intro K hK
    have Gt:=Qh (JT.o.alloc (.cells D6 39));refine Q4 RH QS d.msgs y (g:=w3.heap.size) (cells:=D6) Gt.o.msgs Gt.o.cL af ae (dK w3 _) (RH _ _ _ _ dP ((aC w3.heap.size w3).alloc af _)) gX jB (RJ ah ah) ?_;refine AU ?_;intro v5 w5 fP hb5 fD a5 n5 c5 mG
    subst mG;have Ni:=Qh (Gt.o.aoR fP hb5 fD);have B5:ai w5 (w.heap.size+1) (d.cells u v z):=⟨_,Ni.o.blk⟩
    have kP:=B5.cell 7 v rfl;have qH:=B5.free 7;clear fP hb5 fD B5 p7;clear hHeld;refine hK.o _ _ ?_ (fun hHeld=>?_)
    ·exact kP
    clear hK K;refine aL ?_
    refine hL 6 ?_;refine EX ?_;intro K hK
    go_simp;refine hK.o _ _ ?_;clear hK K;refine H5 ?_
    have XH:=Qh (Ni.o.set 7 (.slice a5 n5 c5));clear hcv Ng Nh kP qH nb bh dP hb3;go_wp2_with fail;go_roundw;case rel=>
     refine⟨k+1,3,d.add (.msg y),u,(.slice a5 n5 c5),z,ae,rfl,bL,rfl,ae,fun _=>ae,fun h=>ae,HV.o,Ps,Ps,?_⟩;exact XH.o
    case measure=>exact bY
   | tab y=>
    obtain⟨C,rfl,ep⟩:=ep;obtain⟨yy,gN⟩:=aoW ep;have yy:C.size=6:=yy;have gN:C.all (·.oneCell')=true:=gN;have o8:=o8;unfold RG at o8;have hc:wr.cell? ⟨bb,oo+k,none⟩=some (.iface 43 (.agg C)):=(by simpa using hrg 0 _ rfl);have ck:=fun W=>RP (.tab y) C W
    simp only[aX.ty,aX.jD,aX.JS]at ck;clear hrg hcl;go_wp2_with fail;refine Pg (ck _) ?_;intro w1 hb1 iY B2
    have uh:=Qh iY;have cM:=Qh (fun W (h:Below wr.heap.size wr W)=>aoH y W C (jP _ _ _ _ ep h) ae);have bX:=Qh hb1;clear hb1 iY ck hc HG ep;by_cases h2:¬ (2:Int)≤last
    ·clear cM;have hb2:decide ((2:Int)≤(last:Nat))=false:=dU h2;have h0:¬ (4:Int) < last:=ae;exact KR (show R=.bad 4 k by rw[uJ.o];unfold oG;rw[dU (show ¬ 2≤last by omega)];simp[aX.jD]) (fo (B2.row bf) 33 _ hu rfl jw)
    have h0:¬ (4:Int) < last:=ae;have HV:=Qh (show R=pk (k+1) 4 (d.add (.tab y)) (l.drop (k+1))by rw[uJ.o];unfold oG;rw[fy (show 2≤last by omega),dU (show ¬ (aX.tab y).jD < last by simp only[aX.jD];omega)];rfl);have hb2:decide ((2:Int)≤(last:Nat))=true:=fy ae;obtain⟨nb,-,cH⟩:=ri w1 C 43;have Ag:=Qh (uh.o.alloc (.cells C 43));have bh:=aH bX.o cH af;clear cH uh bX uJ;have IJ:=underlying43;have Nf:ai (w1.alloc (.cells iD 43)) w1.heap.size iD:=ai.new _ _ _;go_wp2_with (refine iC (cs:=C) Nf 43 (.tmp 13) (.tmp 86) (by rw[yy];exact rM) (by rw[yy];rfl) gN ?_)
    clear Nf;rw[World.setRow_alloc_new];have hcv:=(show ai (w1.alloc (.cells C 43)) (w.heap.size+1) (d.cells u v z)from ⟨_,Ag.o.blk⟩).cell 8 z rfl;generalize w1.alloc (.cells C 43)=W2 at *;refine wX 7 (fun (w':World)=>w'.cell? ⟨w.heap.size+1,8,none⟩=some z) aj hcv (fun hHeld=>?_);refine hL 0 ?_;refine aL ?_
    refine hL 1 ?_;refine aL ?_
    refine CT 2 rfl aj (fun K hK=>?_);refine ael (k:=w1.heap.size) (cs:=C) nb 43 (.tmp 13) IJ (by rw[yy];exact rM) ?_;clear hHeld;refine hK.o _ _ ?_ (fun hHeld=>?_)
    ·exact hcv
    clear hK K;refine zg ?_;intro K hK
    go_simp;refine jH (cM.o W2.drew bh.drew) ?_;intro w3 D6 dP hb3
    clear hHeld;refine hK.o _ _ ?_ (fun hHeld=>?_)
    ·exact dx (w:=W2.drew) hcv hb3
    clear hK K;refine zh ?_;intro K hK
    have gX:D6.size=6:=(by have:=adR dP;rwa [Bu]at this);have jB:=adS dP;have p7:=ze iD D6 6 gX rfl;have JT:=Qh (Ag.o.drew.keep hb3);have Ng:=dx (w:=W2.drew) hcv hb3;have Nh:=dx Ng ((aC w3.heap.size w3).alloc af (.cells D6 43));go_simp;clear hHeld;refine hK.o _ _ ?_ (fun hHeld=>?_)
    ·exact Nh
    clear hK K;refine CU ?_;intro K hK
    have Gt:=Qh (JT.o.alloc (.cells D6 43));refine Q4 RI VW d.tabs y (g:=w3.heap.size) (cells:=D6) Gt.o.tabs Gt.o.cL af ae (dK w3 _) (RI _ _ _ _ dP ((aC w3.heap.size w3).alloc af _)) gX jB (RM ah) ?_;refine AU ?_;intro v5 w5 fP hb5 fD a5 n5 c5 mG
    subst mG;have Ni:=Qh (Gt.o.aoS fP hb5 fD);have B5:ai w5 (w.heap.size+1) (d.cells u v z):=⟨_,Ni.o.blk⟩
    have kP:=B5.cell 8 z rfl;have qH:=B5.free 8;clear fP hb5 fD B5 p7;clear hHeld;refine hK.o _ _ ?_ (fun hHeld=>?_)
    ·exact kP
    clear hK K;refine aL ?_
    refine hL 6 ?_;refine EX ?_;intro K hK
    go_simp;refine hK.o _ _ ?_;clear hK K;refine H5 ?_
    have XH:=Qh (Ni.o.set 8 (.slice a5 n5 c5));clear hcv Ng Nh kP qH nb bh dP hb3;go_wp2_with fail;go_roundw;case rel=>
     refine⟨k+1,4,d.add (.tab y),u,v,(.slice a5 n5 c5),ae,rfl,bL,rfl,ae,fun _=>ae,fun h=>ae,HV.o,Ps,Ps,?_⟩;exact XH.o
    case measure=>exact bY
  ·obtain rfl:k=l.length:=by omega
   rw[qZ]at uW;unfold pk at uW;have B2:ai wr w.heap.size bf:=⟨_,hg.res⟩
   have K2:=Qh hg.res;have HG:=Qh hg;by_cases h2:(last:Int) < 2
   ·have HV:=Qh (show R=.bad 2 l.length by rw[uW,if_pos (show last < 2 by omega)]);clear uW hg;go_wp2_with (refine iC (cs:=bf) B2 33 (.tmp 2) (.tmp 97) jw rfl TT ?_)
    have hrun:=fo (B2.row bf) 33 _ hu rfl jw;refine bB (v:=.tuple #[.agg bf,.iface 102 (.agg #[.int .i64 2,.int .i64 0,.int .i64 (l.length:Nat)])]) (by simp[results,results20,asAddr,hrun]) rfl ⟨_,rfl,by rw[HV.o];rfl,pL HG.o.cL af bf⟩
   ·have HV:=Qh (show R=.good d by rw[uW,if_neg (show ¬ last < 2 by omega)]);have B4:ai wr (w.heap.size+1) (d.cells u v z):=⟨_,hg.blk⟩
    obtain⟨a1,c1,e1,-⟩:=hg.names.shape;obtain⟨a2,c2,e2,-⟩:=hg.msgs.shape;obtain⟨a3,c3,e3,-⟩:=hg.tabs.shape;have hsz:(d.cells u v z).size=9:=rfl;have hone:(d.cells u v z).all (·.oneCell')=true:=(by rw[e1,e2,e3];exact aS.cells_one _ _ _ _ _ _ _ _ _ _);have HD:Hid (∃ D,D=d.cells u v z):=Qh ⟨_,rfl⟩;obtain⟨D,hD⟩:=HD.o;rw[← hD]at B4 hsz hone;have Nj:=Qh hD;clear uW hg HD hD e1 e2 e3;go_wp2_with (first|(refine fG B4 33 (.tmp 4) hu (by rw[hsz];exact jw) ?_)|(refine iC (cs:=D) B2 33 (.tmp 2) (.tmp 102) (by rw[hsz];exact jw) Bk hone ?_))
    have hrun:=fo (B2.row D) 33 _ hu rfl (by rw[hsz];exact jw);refine bB (v:=.tuple #[.agg D,.nilIface]) (by simp[results,results20,asAddr,hrun]) rfl ⟨_,rfl,?_,pL HG.o.cL af D⟩;rw[HV.o];refine⟨D,rfl,u,v,z,by rw[Nj.o],?_,?_,?_⟩
    ·exact aG.dn HG.o.names ah K2.o (fun b _ hne=>gK _ _ _ _ hne)
    ·exact(aZ.dn HG.o.msgs ah (RJ ah ah) K2.o qX (fun b _ hne=>gK _ _ _ _ hne)).fU (bV _)
    ·exact(aZ.dn HG.o.tabs ah (RM ah) K2.o qX (fun b _ hne=>gK _ _ _ _ hne)).fU (bV _)
end Go.Proofs.YtfflljgnpfldfaaGreatDoor
