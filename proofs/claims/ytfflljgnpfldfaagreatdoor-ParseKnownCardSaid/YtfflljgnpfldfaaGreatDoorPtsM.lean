/-
  The parts of a file as parse.File left them: their lists, one behind the other, each with memory of its own.
-/
import Derived.Test.YtfflljgnpfldfaaGreatDoorNodD
import Derived.Test.YtfflljgnpfldfaaGreatDoorPrsS
import Derived.Test.YtfflljgnpfldfaaGreatDoorNotA
set_option linter.all false
set_option maxHeartbeats 128000000
set_option maxRecDepth 100000
namespace Go.Proofs.YtfflljgnpfldfaaGreatDoor
open Go.RowKit Go.Shelf
def Ki (s:List UInt8) (m:Mark) (k:Nat):Prop:=eN s (1,1) k (m.2.1,m.2.2)∧k+m.1.length≤s.length∧(s.drop k).take m.1.length=m.1
def oJ (s:List UInt8) (n:Nat) (M:List Mark):Prop:=∃ ks:List Nat,iM (Ki s) M ks∧ks.Pairwise (· < ·)∧∀ k∈ks,n≤k
theorem oJ.nil (s:List UInt8) (n:Nat):oJ s n []:=⟨[],.nil,.nil,fun k hk=>by cases hk⟩
theorem oJ.low {s:List UInt8} {n m:Nat} {M:List Mark} (h:oJ s n M) (hm:m≤n):oJ s m M:=by
 obtain⟨ks,h1,h2,h3⟩:=h;exact⟨ks,h1,h2,fun k hk=>bQ hm (h3 k hk)⟩
theorem oJ.tail {s:List UInt8} {n:Nat} {m:Mark} {M:List Mark} (h:oJ s n (m::M)):∃ k,n≤k∧Ki s m k∧oJ s (k+1) M:=by
 obtain⟨ks,h1,h2,h3⟩:=h;cases h1 with
 | cons a b=>
  rename_i k ks
  rw[List.pairwise_cons]at h2;exact⟨k,h3 k aB,a,ks,b,h2.2,fun x hx=>h2.1 x hx⟩
theorem oJ.cons {s:List UInt8} {n k:Nat} {m:Mark} {M:List Mark} (hk:n≤k) (ha:Ki s m k) (h:oJ s (k+1) M):oJ s n (m::M):=by
 obtain⟨ks,h1,h2,h3⟩:=h;refine⟨k::ks,.cons ha h1,List.pairwise_cons.2 ⟨fun x hx=>h3 x hx,h2⟩,fun x hx=>?_⟩;rcases nL.1 hx with rfl|hx
 ·exact hk
 ·have:=h3 x hx;omega
theorem oJ.sub {s:List UInt8} {M N:List Mark} (h:List.Sublist M N):∀ {n:Nat},oJ s n N→oJ s n M:=by
 induction h with
 | slnil=>exact fun h=>h
 | cons x _ ih=>
  intro n h;obtain⟨k,h1,h2,h3⟩:=h.tail;exact(ih h3).low ae
 | cons_cons x _ ih=>
  intro n h;obtain⟨k,h1,h2,h3⟩:=h.tail;exact .cons h1 h2 (ih h3)
def ji:aX→Mark
 | .bG v=>([86,69,82,83,73,79,78],v.line,v.ak)
 | .aR s=>([66,85,95],s.line,s.ak)
 | .msg m=>([66,79,95],m.line,m.ak)
 | .tab t=>([86,65,76,95],t.line,t.ak)
theorem aqy (y:aX):List.Sublist [ji y] (Gd y):=by
 cases y<;>simp[ji,Gd,Ck]
theorem aqs (l:List aX):List.Sublist (l.map ji) (l.flatMap Gd):=by
 induction l with
 | nil=>exact .slnil
 | cons y l ih=>
  rw[zH,Dk];exact(aqy y).append ih
theorem aqt {l:List aX} {m:bj} (h:aX.msg m∈l):List.Sublist (Ck m) (l.flatMap Gd):=by
 induction l with
 | nil=>cases h
 | cons y l ih=>
  rw[Dk];rcases nL.1 h with h1|h1
  ·rw[← h1];exact List.sublist_append_left _ _
  ·exact(ih h1).trans (List.sublist_append_right _ _)
def gj {α:Type} (p:List aw→PR α) (P:α→Prop):Prop:=∀ ts x aJ,p ts=.ok x aJ→di ts→P x
theorem gj.bind {α β:Type} {p:List aw→PR α} {f:α→List aw→PR β} {Q:α→Prop} {P:β→Prop} (hp:fA p) (hq:gj p Q) (hf:∀ y,Q y→gj (f y) P):gj (fun ts=>(p ts).bind f) P:=fun ts x aJ e hb=>by
 obtain⟨y,t,h1,h2⟩:=gH e;exact hf y (hq _ _ _ h1 hb) _ _ _ h2 (hp _ _ _ h1 hb).1
theorem gj.skip {α β:Type} {p:List aw→PR α} {f:α→List aw→PR β} {P:β→Prop} (hp:fA p) (hf:∀ y,gj (f y) P):gj (fun ts=>(p ts).bind f) P:=
 gj.bind (Q:=fun _=>True) hp (fun _ _ _ _ _=>trivial) fun y _=>hf y
theorem ahm {α:Type} {P:α→Prop} (x:α) (h:P x):gj (fun ts=>PR.ok x ts) P:=fun ts y aJ e hb=>by
 cases e
 exact h
theorem ars (nm:List UInt8):gj (fun ts=>lO ts.length [nm] ts) (fun l=>l.length≤4000000):=fun ts x aJ e hb=>by
 have h1:=(NV _ e hb).2.2;have h2:=hb.2.2;have h3:=(NV _ e hb).1.1.pos;simp only[dz,lF]at h1;omega
theorem art:gj nc (fun x=>x.rs.length≤4000000):=
 gj.skip (jO _).keeps fun _=>gj.skip tX.keeps fun _=>gj.skip agX fun _=>gj.skip (jO _).keeps fun _=>
 gj.skip (Kw _).keeps fun _=>gj.skip (jO _).keeps fun _=>gj.skip (Kw _).keeps fun _=>gj.skip agY.keeps fun _=>
 gj.skip (jO _).keeps fun _=>gj.skip Ez.keeps fun _=>gj.skip (jO _).keeps fun _=>gj.skip Ez.keeps fun _=>gj.skip (jO _).keeps fun _=>
 gj.skip (jO _).keeps fun _=>gj.skip Ez.keeps fun _=>gj.skip (jO _).keeps fun _=>gj.skip Ez.keeps fun _=>gj.skip (jO _).keeps fun _=>
 gj.skip (GY _).keeps fun _=>gj.skip tX.keeps fun _=>gj.bind (agZ _) (ars _) fun _ h=>ahm _ h
def KA (m:bj):Prop:=m.sigs.length≤64∧∀ x∈m.sigs,x.rs.length≤4000000
theorem ahn:∀ (f:Nat) {l r:List et} {ts aJ:List aw},kg f l ts=.ok r aJ→(∀ x∈l,x.rs.length≤4000000)→di ts→∀ x∈r,x.rs.length≤4000000
 | 0,l,r,ts,aJ,h,hl,hb=>by
  cases h
  exact hl
 | f+1,l,r,ts,aJ,h,hl,hb=>by
  unfold kg eY at h;split at h
  ·split at h
   ·cases h
   ·obtain⟨y,t,h1,h2⟩:=gH h;refine ahn f h2 (fun x hx=>?_) (SU _ _ _ h1 hb).1;rcases uG.1 hx with hx|hx
    ·exact hl x hx
    ·rw[oY]at hx;subst hx;exact art _ _ _ h1 hb
  ·cases h
   exact hl
theorem aru:gj my KA:=
 gj.skip (jO _).keeps fun _=>gj.skip SS.keeps fun _=>gj.skip tX.keeps fun _=>gj.skip (jO _).keeps fun _=>
 gj.skip (Kw _).keeps fun _=>gj.skip tX.keeps fun _=>gj.bind (Q:=fun l:List et=>l.length≤64∧∀ x∈l,x.rs.length≤4000000) ag0 (fun ts x aJ e hb=>⟨(SV _ e aB hb).2.2,ahn _ e (fun x hx=>by cases hx) hb⟩) fun _ h=>ahm _ h
theorem aho:∀ (f:Nat) {l r:List bj} {ts aJ:List aw},jl f l ts=.ok r aJ→l.length≤512→(∀ m∈l,KA m)→di ts→(di aJ∧aJ.length≤ts.length)∧r.length≤512∧∀ m∈r,KA m
 | 0,l,r,ts,aJ,h,hn,hl,hb=>by
  cases h
  exact⟨⟨hb,af⟩,hn,hl⟩
 | f+1,l,r,ts,aJ,h,hn,hl,hb=>by
  unfold jl eY at h;split at h
  ·split at h
   ·cases h
   ·rename_i hne
    obtain⟨y,t,h1,h2⟩:=gH h;obtain⟨b1,l1⟩:=Zr _ _ _ h1 hb;obtain⟨z,t2,h3,h4⟩:=gH h2;obtain⟨b2,l2⟩:=EA _ _ _ h3 b1;obtain⟨⟨b3,l3⟩,l4,l5⟩:=aho f h4 Px (fun x hx=>by
     rcases uG.1 hx with hx|hx
     ·exact hl x hx
     ·rw[oY]at hx;subst hx;exact aru _ _ _ h1 hb) b2
    exact⟨⟨b3,ae⟩,l4,l5⟩
  ·cases h
   exact⟨⟨hb,af⟩,hn,hl⟩
theorem arv {ts aJ:List aw} {x:bK} (h:mC ts=.ok x aJ) (hb:di ts):(di aJ∧aJ.length+4≤ts.length)∧x.rows.length≤256:=by
 unfold mC at h;obtain⟨y1,t1,h1,h⟩:=gH h;obtain⟨b1,l1⟩:=jO _ _ _ _ h1 hb;obtain⟨y2,t2,h2,h⟩:=gH h;obtain⟨b2,l2⟩:=SS _ _ _ h2 b1;obtain⟨y3,t3,h3,h⟩:=gH h;obtain⟨b3,l3⟩:=tX _ _ _ h3 b2;obtain⟨y4,t4,h4,h⟩:=gH h;obtain⟨b4,l4,l4'⟩:=SX _ h4 aB b3;obtain⟨y5,t5,h5,h⟩:=gH h;obtain⟨b5,l5⟩:=jO _ _ _ _ h5 b4;cases h
 exact⟨⟨b5,ae⟩,l4'⟩
theorem ahp:∀ (f:Nat) {l r:List bK} {ts aJ:List aw},jC f l ts=.ok r aJ→(∀ t∈l,t.rows.length≤256)→di ts→di aJ∧r.length*4+aJ.length≤l.length*4+ts.length∧∀ t∈r,t.rows.length≤256
 | 0,l,r,ts,aJ,h,hl,hb=>by
  cases h
  exact⟨hb,af,hl⟩
 | f+1,l,r,ts,aJ,h,hl,hb=>by
  unfold jC at h;split at h
  ·obtain⟨y,t,h1,h2⟩:=gH h;obtain⟨⟨b1,l1⟩,r1⟩:=arv h1 hb;obtain⟨z,t2,h3,h4⟩:=gH h2;obtain⟨b2,l2⟩:=EA _ _ _ h3 b1;obtain⟨b3,l3,l4⟩:=ahp f h4 (fun x hx=>by
    rcases uG.1 hx with hx|hx
    ·exact hl x hx
    ·rw[oY]at hx;subst hx;exact r1) b2
   rw[ey,dz,lF]at l3;exact⟨b3,ae,l4⟩
  ·cases h
   exact⟨hb,af,hl⟩
theorem arw:fA qE:=fun ts x aJ e hb=>by
 unfold qE at e;split at e
 ·rename_i hs
  have ht:=tV hb;obtain⟨y,t,h1,h2⟩:=gH e;obtain⟨b1,l1⟩:=GY _ _ _ _ h1 (hb.tail (mY hs));obtain⟨z,t2,h3,h4⟩:=gH h2;obtain⟨b2,l2⟩:=EA _ _ _ h3 b1;cases h4
  exact⟨b2,ae⟩
 ·cases e
  exact⟨hb,af⟩
structure oy (d:aS) (n:Nat):Prop where
 DN:d.aR.names.length≤4000000
 xu:d.msgs.length≤512
 msg:∀ m∈d.msgs,KA m
 xw:d.tabs.length*4≤n
 tab:∀ t∈d.tabs,t.rows.length≤256
theorem adU {ts aJ:List aw} {d:aS} (h:mq ts=.ok d aJ) (hb:di ts):oy d ts.length:=by
 unfold mq at h;obtain⟨y1,t1,h1,h⟩:=gH h;obtain⟨b1,l1⟩:=EA _ _ _ h1 hb;obtain⟨y2,t2,h2,h⟩:=gH h;obtain⟨b2,l2⟩:=arw _ _ _ h2 b1;obtain⟨y3,t3,h3,h⟩:=gH h;obtain⟨b3,l3⟩:=jO _ _ _ _ h3 b2;obtain⟨y4,t4,h4,h⟩:=gH h;obtain⟨b4,l4⟩:=jO _ _ _ _ h4 b3;obtain⟨y5,t5,h5,h⟩:=gH h;obtain⟨b5,l5,l5'⟩:=ag2 _ h5 b4;obtain⟨y6,t6,h6,h⟩:=gH h;obtain⟨b6,l6⟩:=EA _ _ _ h6 b5;obtain⟨y7,t7,h7,h⟩:=gH h;obtain⟨⟨b7,l7⟩,m1,m2⟩:=aho _ h7 aB (fun x hx=>by cases hx) b6;obtain⟨y8,t8,h8,h⟩:=gH h;obtain⟨b8,l8,m3⟩:=ahp _ h8 (fun x hx=>by cases hx) b7;unfold uQ iy eY at h;split at h
 ·cases h
  have:=hb.2.2;have h6p:=b6.1.pos;simp only[lF]at l5' l8;exact⟨by show y5.length≤_;omega,m1,m2,by show y8.length*4≤_;omega,m3⟩
 ·cases h
def V8 (d:aS):aS:=if d.has then d else { d with bG:=⟨0,0,[]⟩ }
theorem aeh:∀ (l:List bK) (i last:Nat) (d:aS),2≤last→last≤4→pk i last d (l.map aX.tab)=.good { d with tabs:=d.tabs++l }
 | [],i,last,d,h,_=>by
  show(if last < 2 then DZ.bad 2 i else DZ.good d)=_;rw[if_neg ae,pT]
 | t::l,i,last,d,h,h4=>by
  show(if oG i last (.tab t) then DZ.bad 4 i else pk (i+1) 4 (d.add (.tab t)) (l.map aX.tab))=_;have e:oG i last (.tab t)=false:=by
   unfold oG;rw[fy (show 2≤last from h),dU (show ¬ (aX.tab t).jD < last by simp only[aX.jD];omega)];rfl
  rw[e,aeh l (i+1) 4 _ ah ah];simp[aS.add]
theorem aei (r:List bK):∀ (l:List bj) (i last:Nat) (d:aS),2≤last→last≤3→pk i last d (l.map aX.msg++r.map aX.tab)=.good { d with msgs:=d.msgs++l,tabs:=d.tabs++r }
 | [],i,last,d,h,_=>by
  rw[BC,mf,aeh r i last d h ae,pT]
 | m::l,i,last,d,h,h3=>by
  show(if oG i last (.msg m) then DZ.bad 4 i else pk (i+1) 3 (d.add (.msg m)) (l.map aX.msg++r.map aX.tab))=_;have e:oG i last (.msg m)=false:=by
   unfold oG;rw[fy (show 2≤last from h),dU (show ¬ (aX.msg m).jD < last by simp only[aX.jD];omega)];rfl
  rw[e,aei r l (i+1) 3 _ ah ah];simp[aS.add]
theorem al4 (d:aS):pk 0 0 aS.zero (bI d)=.good (V8 d):=by
 have h:∀ (i last:Nat) (e:aS),last≤1→pk i last e (.aR d.aR::(d.msgs.map .msg++d.tabs.map .tab))=.good { e with aR:=d.aR,msgs:=e.msgs++d.msgs,tabs:=e.tabs++d.tabs }:=fun i last e hl=>by
  show(if oG i last (.aR d.aR) then DZ.bad 4 i else pk (i+1) 2 (e.add (.aR d.aR)) (d.msgs.map .msg++d.tabs.map .tab))=_;have e1:oG i last (.aR d.aR)=false:=by
   unfold oG;rw[dU (show ¬ 2≤last by omega),dU (show ¬ (aX.aR d.aR).jD < last by simp only[aX.jD];omega)];rfl
  rw[e1,aei d.tabs d.msgs (i+1) 2 _ ah ah];rfl
 unfold bI V8;cases hh:d.has
 ·rw[show(if false=true then [aX.bG d.bG] else [])=[]from rfl,mf,h 0 0 _ ah];cases d
  simp only at hh;subst hh;rfl
 ·show(if oG 0 0 (.bG d.bG) then DZ.bad 4 0 else pk 1 1 (aS.zero.add (.bG d.bG)) (.aR d.aR::(d.msgs.map .msg++d.tabs.map .tab)))=_;rw[show oG 0 0 (.bG d.bG)=false from rfl,h 1 1 _ ah];cases d
  simp only at hh;subst hh;rfl
def tq (d:aS):Prop:=d.has=false→d.bG=⟨0,0,[]⟩
theorem alb {ts aJ:List aw} {d:aS} (h:mq ts=.ok d aJ):tq d:=by
 unfold mq at h;obtain⟨y1,t1,h1,h⟩:=gH h;obtain⟨y2,t2,h2,h⟩:=gH h;obtain⟨y3,t3,h3,h⟩:=gH h;obtain⟨y4,t4,h4,h⟩:=gH h;obtain⟨y5,t5,h5,h⟩:=gH h;obtain⟨y6,t6,h6,h⟩:=gH h;obtain⟨y7,t7,h7,h⟩:=gH h;obtain⟨y8,t8,h8,h⟩:=gH h;unfold uQ iy eY at h;split at h
 ·cases h
  unfold tq;intro hh;unfold qE at h2;split at h2
  ·obtain⟨x,u,k1,k2⟩:=gH h2;obtain⟨z,u2,k3,k4⟩:=gH k2;cases k4
   cases hh
  ·cases h2
   rfl
 ·cases h
theorem al5 (d:aS) (h:tq d):pk 0 0 aS.zero (bI d)=.good d:=by
 rw[al4];unfold V8;cases hh:d.has
 ·have:=h hh;simp only[zC,tj];rw[← this,← hh]
 ·rfl
open Go.RowKit
theorem ai8 {P:Program} {w:World} {base:Nat} {t ty e:TypeId} {i:TypeInfo} {z:Value} (ht:P.underlying t=some (.slice e)) (hi:P.info? e=some i) (hz:i.zero=some z)
  {v:Value} {n:Nat} {xs:List Value} (hown:w.ownsRow base e i.size v n xs) {a:Addr} {c:Nat} {news:List Value} (hl:news.length=2*i.size)
  (hnews:∀ j u,news[j]? = some u→w.cell? (a.add j)=some u) (h1:∀ u∈news,u.oneCell' = true) (h63:n+2≤maxLen) (hbytes:(n+2)*i.bytes≤140737488355328)
  {v':Value} {w':World} (hr:(Builtin.append_ #[t,t] ty #[v,.slice (some a) 2 c]).run P w=.ok v' w') :
  (∃ g n cap,v=.slice (some ⟨g,0,none⟩) n cap∧v' = .slice (some ⟨g,0,none⟩) (n+2) cap)∨w.grownBy w' none:=by
 have acz:n+2≤9223372036854775807:=(by simp only[maxLen]at h63;omega);rcases hown.2 with ⟨rfl,rfl⟩|⟨g,cap,cur,rfl,hbg,hg,LP,hcm,hcs,acA⟩
 ·have hr2:=run_append_nil (P:=P) w t ty e i z ht hi hz a 2 c news hl hnews ae ae U7;exact ab5
 ·by_cases hroom:n+2≤cap
  ·refine UK ?_;intro o8;have hr2:=run_append_room (P:=P) w t ty e i ht hi g n cap cur hg a 2 c news hl hnews h1 hroom o8;rw[hr2]at hr;cases hr
   exact .inl ⟨g,n,cap,rfl,rfl⟩
  ·refine UT ?_;intro holds;have hr2:=run_append_grow (P:=P) w t ty e i z ht hi hz ⟨g,0,none⟩ n cap xs hown.1 holds a 2 c news hl hnews ae ae (growslice_fits ae hbytes);exact ab5
theorem ai9 {α:Type} {rd:World→α→List Value→Prop} (Dt:jY rd) {P:Program} {wr:World} {ops:Array Oper} {rest:List Oper} {o:Oper} {a:Act} {Q:Exit→Act→World→Prop} {s x:Operand}
  {t e:TypeId} {size bytes:Nat} (T:eO P t e size bytes) {base:Nat} {ad:Option Addr} {n c:Nat} (xs:List α) (dW:n=xs.length) {cells:Array Value} {ty:TypeId}
  (hown:aZ wr base e rd size (.slice ad n c) xs) (hbase:base≤wr.heap.size) (hbound:(n+2)*bytes≤140737488355328) (hsz:cells.size=2*size) (h1:cells.all (·.oneCell')=true) (hap:kI rd e)
  (h:∀ a' c' w1,aZ w1 base e rd size (.slice ad n c) xs→wr.grownBy w1 (Value.slice ad n c).ownBlock→Below base wr w1→wpList P ops Q rest (a.put o.dst (.slice a' (n+2) c')) w1)
  (hgd:o.guard=none:=by rfl) (ho:o.op=.call { callee:=.builtin .append,args:=#[s,x],argTypes:=#[t,t] }:=by rfl)
  (hs:a.eval s=.slice ad n c:=by rfl) (hx:a.eval x=.slice (some ⟨wr.heap.size,0,none⟩) 2 2:=by rfl) :
  wpList P ops Q (o::rest) a (wr.alloc (.cells cells ty)):=by
 subst dW;obtain⟨rows,hr1,hr2⟩:=hown;have hlen:=hr2.len;have acB:∀ w1,aG w1 base e size Row.en (.slice ad xs.length c) rows→wr.grownBy w1 (Value.slice ad xs.length c).ownBlock→aZ w1 base e rd size (.slice ad xs.length c) xs:=fun w1 ho hg=>⟨rows,ho,hr2.mono fun z r hz=>Qm hr1 hg Dt hap hz⟩
 obtain⟨hu,⟨i,z,hi,hz,g1,g2,g3⟩,hp,oh⟩:=T;subst g1;subst g2;have hn:rows.length+2≤maxLen:=by
  have:(xs.length+2)*1≤(xs.length+2)*i.bytes:=zw _ oh;unfold maxLen;omega
 have hnews:∀ j u,cells.toList[j]? = some u→(wr.alloc (.cells cells ty)).cell? ((⟨wr.heap.size,0,none⟩:Addr).add j)=some u:=by
  intro j u hu;rw[Addr.add_lit,kF,zI _ _ _ cells ty (0,0) (dK wr _)];rw[← hu];simp
 have hl:cells.toList.length=2*i.size:=(by rw[Bu,hsz]);have hone:∀ u∈cells.toList,u.oneCell' = true:=fun u hu=>(LF.1 h1) u (Array.mem_toList_iff.1 hu)
 rw[hlen]at hbound hs acB h;refine wpList_plain hgd fun K hK=>?_
 rw[hlen]at hr1;obtain⟨v',w',hr,k1,k2,_⟩:=run_append_own (P:=P) (wr.alloc (.cells cells ty)) base t o.type e i z i.size i.bytes hu hi hz rfl rfl g3 hp (.slice ad rows.length c) rows.length (rows.flatMap Row.en) (Bv hr1 _) ⟨wr.heap.size,0,none⟩ 2 2 cells.toList hl hnews hone hn hbound cO;have hcs:=ai8 hu hi hz (Bv hr1 _) hl hnews hone hn hbound hr;refine OC ?_;have Vp:wr.grownBy w' (Value.slice ad rows.length c).ownBlock:=⟨k2.os,k2.tape,k2.output,bQ aB k2.size,fun k hk hne=>(k2.block k cO hne).trans (zG wr _ k hk)⟩
 have bh:Below base wr w':=(aC base wr).grown Vp hbase (fun k hk=>(World.ownsRow.lt hr1 k hk).1);have aja:aG w' base e i.size Row.en (.slice ad rows.length c) rows:=by
  rcases hcs with ⟨g,m,cap,e1,e2⟩|LQ
  ·cases e1
   have hk:w'.ownsRow base e i.size (.slice (some ⟨g,0,none⟩) (rows.length+2) c) (rows.length+2) (rows.flatMap Row.en++cells.toList):=(by rw[← e2];exact k1);refine⟨o7 Row.pU rows,?_⟩;rcases hk.2 with ⟨hv,_⟩|⟨g',cap',cur,hv,hb,hg,hle,hm,BI,iJ⟩
   ·cases hv
   ·cases hv
    refine .inr ⟨g,c,cur,rfl,hb,hg,ae,hm,BI,?_⟩;have:=jA (List.take (rows.length*i.size)) iJ;have e3:List.take (rows.length*i.size) (List.flatMap Row.en rows++cells.toList)=rows.flatMap Row.en:=by
     rw[← o7 Row.pU rows];exact List.take_left
    rw[e3,List.take_take,Fx (vL _ ae)]at this;exact this
  ·refine hr1.keep (w':=w') ?_ af;exact⟨LQ.os,LQ.tape,LQ.output,bQ aB LQ.size,fun k hk=>(LQ.block k cO aB).trans (zG wr _ k hk)⟩
 obtain⟨a',c',e'⟩:∃ a' c',v' = .slice a' (rows.length+2) c':=by
  rcases k1.2 with ⟨hv,h0⟩|⟨g',cap',cur,hv,_⟩
  ·omega
  ·exact⟨_,_,hv⟩
 rw[e']at *;exact hK _ _ (h a' c' w' (acB w' aja Vp) Vp bh)
theorem aZ.other {α β:Type} {rd:World→α→List Value→Prop} {w w1:World} {base base':Nat} {e e':TypeId} {size xE:Nat} {zO:World→β→List Value→Prop} {u v:Value} {xs:List α} {ys:List β} (h:aZ w base e rd size u xs) (h':aZ w base' e' zO xE v ys) (hg:w.grownBy w1 v.ownBlock) (ha:Apart v u) (hl:jY rd) (hap:kI rd e'):aZ w1 base e rd size u xs:=by
 obtain⟨rows,h1,h2⟩:=h;obtain⟨rows',h3,-⟩:=h';exact⟨rows,h1.other hg ha,h2.mono fun x r hr=>Qm h3 hg hl hap hr⟩
theorem aZ.lt {α:Type} {rd:World→α→List Value→Prop} {w:World} {base:Nat} {e:TypeId} {size:Nat} {u:Value} {xs:List α} (h:aZ w base e rd size u xs):∀ k,u.ownBlock=some k→base≤k∧k < w.heap.size:=by
 obtain⟨rows,h1,-⟩:=h;exact h1.lt
theorem Vq (b:Nat) {e:TypeId} (he:9≠e) (hem:39≠e) (het:43≠e) (hes:63≠e) (her:45≠e):kI (tB b) e:=fun w w' x cs k C fz ⟨u,v,z,h1,h2,h3,h4⟩ hk hz hb=>
 ⟨u,v,z,h1,h2.dn he hk hb,h3.dn hem (lu b he hes) hk hz hb,h4.dn het (mQ b her) hk hz hb⟩
theorem ajb {b b':Nat} {w:World} {x:bj} {cs:List Value} (h:jK b w x cs) (hb:b'≤b):jK b' w x cs:=by
 obtain⟨v,h1,h2⟩:=h;obtain⟨rows,s1,s2⟩:=h2.fU hb;exact⟨v,h1,rows,s1,s2.mono fun x r ⟨v,j1,j2⟩=>⟨v,j1,j2.fU hb⟩⟩
theorem ajc {b b':Nat} {w:World} {x:aS} {cs:List Value} (h:tB b w x cs) (hb:b'≤b):tB b' w x cs:=by
 obtain⟨u,v,z,h1,h2,h3,h4⟩:=h;refine⟨u,v,z,h1,h2.fU hb,?_,?_⟩
 ·obtain⟨rows,r1,r2⟩:=h3.fU hb;exact⟨rows,r1,r2.mono fun m r hm=>ajb hm hb⟩
 ·obtain⟨rows,r1,r2⟩:=h4.fU hb;exact⟨rows,r1,r2.mono fun m r ⟨v,k1,k2⟩=>⟨v,k1,k2.fU hb⟩⟩
theorem Lh {b:Nat} {w:World} {x:aS} {C:Array Value} (h:tB b w x C.toList):C.size=9∧C.all (·.oneCell')=true:=by
 obtain⟨u,v,z,e,h1,h2,h3⟩:=h;obtain rfl:=eA.1 e;obtain⟨a,c,rfl,-⟩:=h1.shape;obtain⟨a,c,rfl,-⟩:=h2.shape;obtain⟨a,c,rfl,-⟩:=h3.shape;exact⟨rfl,by unfold aS.cells;simp[Value.oneCell']⟩
open Go.Proofs.Tryz
theorem VU {P:Program} {ops:Array Oper} {o:Oper} {a:Act} {w:World} {K:Act→World→Prop} {Q:Exit→Act→World→Prop} {E:Prop} {k:Nat} {old cs:Array Value} (hb:ai w k old) (ty:TypeId) (x y:Operand)
  (hi:(P.info? ty).map (·.size)=some cs.size) (hs:old.size=cs.size) (h1:cs.all (·.oneCell')=true) (h:K (a.put o.dst undef) (w.setRow k cs))
  (hgd:o.guard=none:=by rfl) (ho:o.op=.store ty x y:=by rfl) (hx:a.eval x=.pointer (some ⟨k,0,none⟩):=by rfl) (hy:a.eval y=.agg cs:=by rfl) :
  if Region.wanted o (yielded ops a.tmps)=true then Oper.wp P o a w K Q else E:=by
 obtain⟨T,hb⟩:=hb;refine Ia ?_;refine Uj ?_;exact h
theorem arM {P:Program} {ops:Array Oper} {S:World→Prop} {o:Oper} {a:Act} {k:Nat} {cs:Array Value} (hS:∀ w,S w→ai w k cs) (ty:TypeId) (x:Operand) {d:TypeDesc}
  (hu:P.underlying ty=some d) (hi:(P.info? ty).map (·.size)=some cs.size)
  (hgd:Region.wanted o (yielded ops a.tmps)=true:=by rfl) (ho:o.op=.load ty x:=by rfl) (hx:a.eval x=.pointer (some ⟨k,0,none⟩):=by rfl) (hd:d.isRow=true:=by rfl):YieldsIf P ops S o (.agg cs) a:=by
 refine Or.inl ⟨hgd,fun w hw=>?_⟩;unfold execOp;simp only[ho,hx,Instr.loadAt,Instr.sureAddr,rT,Sem.run_pure,Fu,fo (hS w hw) ty d hu hd hi]
theorem arN {d:aS} {n:Nat} (h:oy d n):∀ x∈bI d,RG x:=by
 unfold bI;intro x hx;rcases uG.1 hx with hx|hx
 ·cases hd:d.has<;>simp[hd]at hx
  subst hx;trivial
 ·rcases nL.1 hx with rfl|hx
  ·exact h.DN
  ·rcases uG.1 hx with hx|hx
   ·obtain⟨m,hm,rfl⟩:=td.1 hx;have:=h.msg m hm;exact⟨by have:=this.1;omega,this.2⟩
   ·obtain⟨t,ht,rfl⟩:=td.1 hx;have:=h.tab t ht;show t.rows.length≤4000000;omega
theorem Qc {d:aS} {n:Nat} (h:oy d n):(bI d).length≤n+514:=by
 unfold bI;have h1:=h.xu;have h2:=h.xw;exact abG
theorem agD {w:World} {base:Nat} {T:List (aX×Nat×Nat)} {d:aS} {aa:Option Addr} {N ca:Nat} (h:aZ w base 98 qa 1 (.slice aa N ca) T) (hf:T.map Prod.fst=bI d):ei w wu 1 aa ca (bI d):=by
 have h2:=h.fst (rd:=QZ) fun x _ cs hc=>ad9 hc
 exact acb
theorem agC (d:aS) (hb:oy d 1048577) (hv:tq d) (n:Nat) (hn:n=(bI d).length) (a:Option Addr) (cap:Nat) (w:World) (hs:ei w wu 1 a cap (bI d)) :
  Calls prog 20 #[.slice a n cap] w fun e w'=>∃ C:Array Value,e=.returned (.tuple #[.agg C,.nilIface])∧Ja w' d C.toList∧Below w.heap.size w w':=by
 have hl:=Qc hb;refine(aoU (bI d) (arN hb) n hn ae a cap w hs).mono ?_;rintro e w' ⟨v,rfl,hg,bP⟩;rw[al5 d hv]at hg;obtain⟨C,rfl,hf⟩:=hg;exact⟨C,rfl,hf,bP⟩
theorem FA (s:List UInt8) (hs:s.length≤9223372036854775807) (d:aS) (hd:oy d 1048577) (hv:tq d) (hf:jX s=.good (bI d)) (w:World) (hW:eR w) :
  Calls prog 8 #[.string ⟨s.toArray⟩] w fun e w'=>∃ C:Array Value,e=.returned (.tuple #[.agg C,.bool true])∧Ja w' d C.toList∧Below w.heap.size w w':=by
 have cF:=fun W (h:eR W)=>Jk s hs W h
 rw[hf]at cF;have cG:=fun (W:World) (n:Nat) (hn:n=(bI d).length) a cap iQ=>agC d hd hv n hn a cap W iQ
 have cH:Below w.heap.size w (w.alloc (.cells bf 33)):=(aC _ _).alloc af _;refine fQ (hW.keep cH) cH (dK w (.cells bf 33)) underlying33 ?_;intro HW HB HZ hu;clear hd hv hf hW cH;go_enter func8,ntmps8
 go_wp2_with fail;generalize xH:w.heap.size=k2 at *;generalize w.alloc (.cells bf 33)=W at *;have Ah:=Qh xH;clear xH;refine aI (cF _ HW.o) ?_
 rintro e w1 ⟨v,T,rfl,ho,ht,hc,hb⟩;obtain⟨a,c,ev,-⟩:=ho.shape;have hN:T.length=(bI d).length:=(by rw[← ht,iw]);rw[hN]at ev;subst ev;have HS:=Qh (agD ho ht);have hk2:=(gE HZ.o)
 have hs1:=hb.size;have gD:=Qh (show k2 < w1.heap.size by omega);replace HB:=Qh (HB.o.trans (hb.mono (gV hk2)));replace HZ:=Qh (bF HZ.o hb);obtain⟨N,Et⟩:∃ N,N=(bI d).length:=⟨_,rfl⟩
 have Gi:=Qh Et;rw[← Et];clear cF hb ho ht hc hN Et HW hk2 hs1 hu;go_wp2_with fail;refine jH (cG _ _ Gi.o _ _ HS.o) ?_;intro w2 C hC hb
 have hs1:=hb.size;replace HB:=Qh (HB.o.trans (hb.mono (gV gD.o)));replace gD:=Qh (show k2 < w2.heap.size by have:=gD.o;omega);replace HZ:=Qh (bF HZ.o hb);have HC:=Qh hC;obtain⟨uB,gN⟩:=Lh (b:=0) hC;have hu:=underlying33;clear cG hb hC hs1 HS;go_upto_region 5 with (refine eX (Z:=bf) (cs:=C) 33 (.tmp 6) (.tmp 19) Ff Dg gN ?_)
 have B6:ai (w2.alloc (.cells C 33)).drew w2.heap.size C:=⟨_,dK w2 _⟩
 have K2:=(bF HZ.o (((aC w2.heap.size w2).alloc af (.cells C 33)).drew))
 refine xt (S:=fun (w':World)=>ai w' w2.heap.size C) aj B6 (fun hHeld=>?_);refine oA 0 (v:=.agg C) rfl aj aj aj (fun _ _ _ h=>h) ot ?_ ?_
 ·exact arM (fun w h=>h) 33 (.tmp 6) hu Fh
 refine aL ?_
 refine hT 1 ?_;refine aL ?_
 refine hT 2 ?_;refine aL ?_
 have B2:ai (w2.alloc (.cells C 33)).drew k2 bf:=⟨_,K2⟩
 have nk:w2.heap.size≠k2:=(by have:=gD.o;omega);refine jS 3 rfl aj (fun K hK=>?_);refine VU (cs:=C) B2 33 (.tmp 2) (.tmp 21) Fh Dg gN ?_;clear hHeld;refine hK.o _ _ ?_ (fun hHeld=>?_)
 ·exact B6.A9 nk C
 clear hK K;refine aL ?_
 refine hT 4 ?_;refine wS ?_
 go_wp2_with fail;have hrun:=fo (B2.row C) 33 _ hu rfl Fh;refine bB (v:=.tuple #[.agg C,.bool true]) (by simp[results,results8,asAddr,hrun]) rfl ⟨C,rfl,?_,?_⟩
 ·have hb2:Below w2.heap.size w2 (w2.alloc (.cells C 33)).drew:=((aC w2.heap.size w2).alloc af _).drew;exact Vq 0 ah ah ah ah ah _ _ _ _ k2 _ _ (vS _ _ _ _ HC.o hb2) K2 qX (fun b _ hb=>gK _ _ _ _ hb)
 ·have hb2:=(HB.o.trans (((aC w2.heap.size w2).alloc af (.cells C 33)).drew.mono (gV gD.o)))
  rw[Ah.o];exact pL hb2 af C
def J6 {α:Type} (w:World) (e:TypeId) (size:Nat) (en:α→List Value) (x:(Value×List α)×Nat×Nat):Prop:=aG w x.2.1 e size en x.1.1 x.1.2∧∀ k,x.1.1.ownBlock=some k→k < x.2.2
theorem fK.less {α:Type} {a b:Nat} {l:List (α×Nat×Nat)} (h:fK a l b):∀ (i j:Nat) (hi:i < l.length) (hj:j < l.length),i < j→l[i].2.2≤l[j].2.1:=by
 induction h with
 | nil h=>intro i j hi;cases hi
 | cons h3 h4 h5 ih=>
  intro i j hi hj uV;cases j with
  | zero=>omega
  | succ j=>
   rw[zv];cases i with
   | zero=>
    rw[zu];exact(h5.ge _ (gU _)).1
   | succ i=>
    rw[zv];exact ih i j _ _ ae
theorem fK.apart {α:Type} {w:World} {e:TypeId} {size:Nat} {en:α→List Value} {a b:Nat} {l:List ((Value×List α)×Nat×Nat)} (h:fK a l b) (ho:∀ x∈l,J6 w e size en x) (i j:Nat) (hi:i < l.length) (hj:j < l.length) (uV:i≠j):Apart l[i].1.1 l[j].1.1:=by
 have key:∀ (i j:Nat) (hi:i < l.length) (hj:j < l.length),i < j→Apart l[i].1.1 l[j].1.1:=fun i j hi hj uV k h1 h2=>by
  have h3:=h.less i j hi hj uV;have h4:=(ho _ (gU hi)).2 k h1;have h5:=((ho _ (gU hj)).1.lt k h2).1;omega
 rcases Nat.lt_or_gt_of_ne uV with h1|h1
 ·exact key i j hi hj h1
 ·exact(key j i hj hi h1).symm
theorem arx {w:World} {T:List (et×Nat×Nat)} {rows:List (Row 19)} (h:iM (fun x (r:Row 19)=>F0 w x r.1) T rows):∀ {a b:Nat},fK a T b→∃ (TX:List ((Value×List (List UInt8))×Nat×Nat)) (ds:List (dI×Value)),
  ds.map (·.2)=TX.map (·.1.1)∧ds.length=T.length∧fK a TX b∧(∀ x∈TX,J6 w 9 1 dr x)∧iM (fun (p:dI×Value) (r:Row 19)=>r.1=(p.1.cells p.2).toList) ds rows∧(∀ p∈ds,∃ a n c,p.2=.slice a n c)∧TX.map (·.1.2)=T.map (·.1.rs):=by
 induction h with
 | nil=>
  intro a b hc;exact⟨[],[],rfl,rfl,.nil hc.le,Bg,.nil,Bg,rfl⟩
 | @cons x y xs ys hx hr ih=>
  intro a b hc;obtain⟨x,lo,hi⟩:=x;cases hc with
  | cons h3 h4 h5=>
   obtain⟨TX,ds,g1,g2,g3,g4,g5,g6,g7⟩:=ih h5;obtain⟨v,e1,o1,o2⟩:=hx;refine⟨((v,x.rs),lo,hi)::TX,(x.d,v)::ds,by simp[g1],by simp[g2],.cons h3 h4 g3,?_,.cons e1 g5,?_,by simp[g7]⟩
   ·intro y hy;rcases nL.1 hy with rfl|hy
    ·exact⟨o1,o2⟩
    ·exact g4 y hy
   ·intro p hp;rcases nL.1 hp with rfl|hp
    ·obtain⟨a,c,e,-⟩:=o1.shape;exact⟨_,_,_,e⟩
    ·exact g6 p hp
def AH:aX→Nat
 | .aR _=>1
 | .msg m=>m.sigs.length
 | _=>0
def EC:aX→Nat
 | .tab _=>1
 | _=>0
def ED:aX→Nat
 | .msg _=>1
 | _=>0
def Yx:aX→Prop
 | .bG _=>True
 | .aR s=>s.names.length≤4000000
 | .msg m=>KA m
 | .tab t=>t.rows.length≤256
structure agx (w:World) (kb a b:Nat) (T:List aX) (L:List bU) (TX:List ((Value×List (List UInt8))×Nat×Nat)) (RW:List ((Value×List (Int×List UInt8))×Nat×Nat)) (SG:List ((Value×List (Row 19))×Nat×Nat)):Prop where
 len:L.length=T.length
 ok:∀ y∈L,y.OK w kb
 tx:L.flatMap bU.tx=TX.map (·.1.1)
 rw:L.flatMap bU.rw=RW.map (·.1.1)
 sg:L.flatMap bU.sg=SG.map (·.1.1)
 Ka:∀ x∈TX,J6 w 9 1 dr x
 Kc:∀ x∈RW,J6 w 45 2 fS x
 sgo:∀ x∈SG,J6 w 63 19 Row.en x
 J9:fK a TX b
 Kb:fK a RW b
 Kd:fK a SG b
 Ke:∀ x∈TX,x.1.2.length≤4000000
 Kf:∀ x∈RW,x.1.2.length≤256
 Kg:∀ x∈SG,x.1.2.length≤64
 J7:TX.length=(T.map AH).sum
 J8:RW.length=(T.map EC).sum
 fh:SG.length=(T.map ED).sum
theorem forall_cons {α:Type} {P:α→Prop} {x:α} {l:List α} (h1:P x) (h2:∀ y∈l,P y):∀ y∈x::l,P y:=fun y hy=>by
 rcases nL.1 hy with rfl|hy
 ·exact h1
 ·exact h2 y hy
theorem Au {α:Type} {P:α→Prop} {k l:List α} (h1:∀ y∈k,P y) (h2:∀ y∈l,P y):∀ y∈k++l,P y:=fun y hy=>by
 rcases uG.1 hy with hy|hy
 ·exact h1 y hy
 ·exact h2 y hy
theorem aqd {w:World} {kb bz:Nat} (hkb:kb < w.heap.size) (hz:bz < w.heap.size) (hzk:bz≠kb) {T:List (aX×Nat×Nat)} {rows:List (Row 1)} (h:iM (fun x (r:Row 1)=>qa w x r.1) T rows):∀ {a b:Nat},fK a T b→b≤kb→(∀ x∈T,Yx x.1) →
  ∃ (L:List bU) (TX:List ((Value×List (List UInt8))×Nat×Nat)) (RW:List ((Value×List (Int×List UInt8))×Nat×Nat)) (SG:List ((Value×List (Row 19))×Nat×Nat)),
   agx w kb a b (T.map Prod.fst) L TX RW SG∧iM (fun (y:bU) (r:Row 1)=>r.1=[y.val]) L rows:=by
 induction h with
 | nil=>
  intro a b hc hb _;exact⟨[],[],[],[],⟨rfl,Bg,rfl,rfl,rfl,Bg,Bg,Bg,.nil hc.le,.nil hc.le,.nil hc.le,Bg,Bg,Bg,rfl,rfl,rfl⟩,.nil⟩
 | @cons x r xs ys hx hr ih=>
  intro a b hc hb lJ;obtain⟨x,lo,hi⟩:=x;cases hc with
  | cons h3 h4 h5=>
   obtain⟨L,TX,RW,SG,P,hL⟩:=ih h5 hb fun y hy=>lJ y (Dj _ hy)
   have hn:=lJ _ (List.mem_cons_self ..);have EE:a≤hi:=bQ h3 h4;have hhb:=h5.le;cases x with
   | bG v=>
    refine⟨.bG v.cells::L,TX,RW,SG,⟨by simp[P.len],forall_cons trivial P.ok,P.tx,P.rw,P.sg,P.Ka,P.Kc,P.sgo,P.J9.low EE,P.Kb.low EE,P.Kd.low EE,P.Ke,P.Kf,P.Kg,?_,?_,?_⟩,.cons hx hL⟩
    ·simpa [AH]using P.J7
    ·simpa [EC]using P.J8
    ·simpa [ED]using P.fh
   | aR s=>
    obtain⟨C,e1,v,e2,o1,o2⟩:=hx;obtain rfl:=eA.1 e2;obtain⟨sa,sc,ev,-⟩:=o1.shape;refine⟨.aR s sa s.names.length sc::L,((v,s.names),lo,hi)::TX,RW,SG,⟨by simp[P.len],forall_cons trivial P.ok,?_,P.rw,P.sg,forall_cons ⟨o1,o2⟩ P.Ka,P.Kc,P.sgo,.cons h3 h4 P.J9,P.Kb.low EE,P.Kd.low EE,forall_cons hn P.Ke,P.Kf,P.Kg,?_,?_,?_⟩,.cons ?_ hL⟩
    ·simp[bU.tx,P.tx,ev]
    ·simp[AH,P.J7,BD]
    ·simpa [EC]using P.J8
    ·simpa [ED]using P.fh
    ·rw[e1,ev];rfl
   | tab s=>
    obtain⟨C,e1,v,e2,o1,o2⟩:=hx;obtain rfl:=eA.1 e2;obtain⟨sa,sc,ev,-⟩:=o1.shape;refine⟨.tab s sa s.rows.length sc::L,TX,((v,s.rows),lo,hi)::RW,SG,⟨by simp[P.len],forall_cons trivial P.ok,P.tx,?_,P.sg,P.Ka,forall_cons ⟨o1,o2⟩ P.Kc,P.sgo,P.J9.low EE,.cons h3 h4 P.Kb,P.Kd.low EE,P.Ke,forall_cons hn P.Kf,P.Kg,?_,?_,?_⟩,.cons ?_ hL⟩
    ·simp[bU.rw,P.rw,ev]
    ·simpa [AH]using P.J7
    ·simp[EC,P.J8,BD]
    ·simpa [ED]using P.fh
    ·rw[e1,ev];rfl
   | msg m=>
    obtain⟨C,e1,v,T2,e2,⟨N3,o1,oa⟩,e3,hch,o2⟩:=hx;obtain rfl:=eA.1 e2;obtain⟨TX2,ds,g1,g2,g3,g4,g5,g6,g7⟩:=arx oa hch;have hlen:=oa.len;have I1:T2.length=m.sigs.length:=(by rw[← e3,iw]);obtain⟨sa,sc,ev,iQ⟩:=o1.shape;have tu:TX2.length=m.sigs.length:=by
     have:=jA List.length g1;simp only[iw]at this;omega
    obtain⟨sb,so,k1,k2,k3,k4⟩:∃ sb so,sb < w.heap.size∧sb≠kb∧(∀ i (hi:i < ds.length),w.rangeAt sb (so+i*19) (ds[i].1.cells ds[i].2).toList)∧(0 < ds.length→sa=some ⟨sb,so,none⟩):=by
     by_cases h0:0 < ds.length
     ·obtain⟨g,cap,hv,hb1,hb2,-,-⟩:=o1.block ae;rw[ev]at hv;cases hv
      have hgk:g < hi:=o2 g (by rw[ev];rfl);refine⟨g,0,hb2,ae,fun i hi=>?_,fun _=>rfl⟩;obtain⟨b',o',e,-,hc'⟩:=bA.cells iQ Row.pU ah (k:=i) ae;cases e
      have hrow:=g5.get hi ae;intro j u hu;have hj:j < 19:=by
       have:=(zt.1 hu).1;rw[← hrow,N3[i].2]at this;exact this
      rw[kE,hc' j hj];unfold Row.en;rw[hrow];exact hu
     ·exact⟨bz,0,hz,hzk,fun i hi=>ae,fun h=>absurd h h0⟩
    refine⟨.msg m ds sb so sc sa::L,TX2++TX,RW,((v,N3),lo,hi)::SG,⟨by simp[P.len],forall_cons ⟨g6,k1,k2,k3,k4⟩ P.ok,?_,P.rw,?_,Au g4 P.Ka,P.Kc,forall_cons ⟨o1,o2⟩ P.sgo,(g3.low h3).app P.J9,P.Kb.low EE,.cons h3 h4 P.Kd,Au ?_ P.Ke,P.Kf,forall_cons ?_ P.Kg,?_,?_,?_⟩,.cons ?_ hL⟩
    ·simp[bU.tx,P.tx,g1]
    ·have:ds.length=N3.length:=by omega
     simp[bU.sg,P.sg,ev,this]
    ·intro x hx;have hx2:x.1.2∈T2.map (·.1.rs):=(by rw[← g7];exact td.2 ⟨x,hx,rfl⟩);obtain⟨y,hy,e⟩:=td.1 hx2;rw[← e];exact hn.2 y.1 (by rw[← e3];exact td.2 ⟨y,hy,rfl⟩)
    ·have:=hn.1;show N3.length≤64;omega
    ·simp[AH,P.J7,tu]
    ·simpa [EC]using P.J8
    ·simp[ED,P.fh,BD]
    ·have:ds.length=N3.length:=by omega
     rw[e1,ev];simp only[bU.val];rw[this]
theorem ary (l:List bj) (h:∀ m∈l,KA m):((l.map aX.msg).map AH).sum≤64*l.length:=by
 induction l with
 | nil=>simp
 | cons m l ih=>
  have h1:=(h m aB).1;have h2:=ih fun x hx=>h x xp
  simp only[zH,List.sum_cons,dz,AH]at h2 ⊢;omega
theorem ahq {f:aX→Nat} {c:Nat} (l:List bj) (hf:∀ m,f (.msg m)=c):((l.map aX.msg).map f).sum=c*l.length:=by
 induction l with
 | nil=>simp
 | cons m l ih=>exact acf
theorem ZZ {f:aX→Nat} {c:Nat} (l:List bK) (hf:∀ m,f (.tab m)=c):((l.map aX.tab).map f).sum=c*l.length:=by
 induction l with
 | nil=>simp
 | cons m l ih=>exact acf
theorem aqf {d:aS} {n:Nat} (h:oy d n):((bI d).map AH).sum≤32769∧((bI d).map EC).sum*4≤n∧((bI d).map ED).sum≤512∧(bI d).length*4≤n+2056∧∀ x∈bI d,Yx x:=by
 have h1:=ary d.msgs h.msg;have h2:=h.xu;have h3:=h.xw;have v1:∀ f:aX→Nat,f (.bG d.bG)=0→((if d.has then [aX.bG d.bG] else []).map f).sum=0:=fun f hf=>by cases d.has<;>simp[hf]
 unfold bI;refine⟨?_,?_,?_,?_,?_⟩
 ·refine U0 ?_;rw[v1 AH rfl,ZZ (c:=0) d.tabs (fun _=>rfl)];simp only[AH];omega
 ·refine U0 ?_;rw[v1 EC rfl,ZZ (c:=1) d.tabs (fun _=>rfl),ahq (c:=0) d.msgs (fun _=>rfl)];simp only[EC];omega
 ·refine U0 ?_;rw[v1 ED rfl,ZZ (c:=0) d.tabs (fun _=>rfl),ahq (c:=1) d.msgs (fun _=>rfl)];simp only[ED];omega
 ·exact abG
 ·refine Au (fun x hx=>?_) (forall_cons h.DN (Au (fun x hx=>?_) fun x hx=>?_))
  ·cases hd:d.has<;>simp[hd]at hx
   subst hx;trivial
  ·obtain⟨m,hm,rfl⟩:=td.1 hx;exact h.msg m hm
  ·obtain⟨t,ht,rfl⟩:=td.1 hx;exact h.tab t ht
end Go.Proofs.YtfflljgnpfldfaaGreatDoor
