/-
  Plain: the tokens of a source that is scanned: they end, their texts are short; what is wrong has one of two forms; what a file's reading answers.
-/
import Derived.Test.YtfflljgnpfldfaaGreatDoorPrsJ
import Derived.Test.YtfflljgnpfldfaaGreatDoorRlxM
set_option linter.all false
set_option maxHeartbeats 128000000
namespace Go.Proofs.YtfflljgnpfldfaaGreatDoor
open Go.RowKit Go.Shelf
def uP (ts:List aw):PR (List UInt8):=if (ax ts).kind=4∧(ax ts).text.length=3 then .ok (ax ts).text ts.tail else iy ts
def lO:Nat→List (List UInt8)→List aw→PR (List (List UInt8))
 | 0,l,ts=>.ok l ts
 | f+1,l,ts=>if dt [44] ts then (ee ts.tail).bind fun nm aJ=>lO f (l++[nm]) aJ else .ok l ts
def nc (ts:List aw):PR et:=
 (cj [83,71,95] ts).bind fun t ts=>(ee ts).bind fun nm ts=>(p9 ts).bind fun rb ts=>(cj [58] ts).bind fun _ ts=>
 (gQ 2147483648 ts).bind fun st ts=>(cj [124] ts).bind fun _ ts=>(gQ 2147483648 ts).bind fun sz ts=>(uP ts).bind fun o ts=>
 (cj [40] ts).bind fun _ ts=>(mZ ts).bind fun sc ts=>(cj [44] ts).bind fun _ ts=>(mZ ts).bind fun of ts=>(cj [41] ts).bind fun _ ts=>
 (cj [91] ts).bind fun _ ts=>(mZ ts).bind fun mi ts=>(cj [124] ts).bind fun _ ts=>(mZ ts).bind fun ma ts=>(cj [93] ts).bind fun _ ts=>
 (dJ 3 ts).bind fun u ts=>(ee ts).bind fun n1 ts=>(lO ts.length [n1] ts).bind fun NS ts=>
 .ok ⟨⟨t.line,t.ak,nm,rb.1,rb.2,st,sz,o[1]? == some 48,o[2]? == some 45,sc.1,sc.2,of.1,of.2,mi.1,mi.2,ma.1,ma.2,u.text⟩,NS⟩ ts
def kg:Nat→List et→List aw→PR (List et)
 | 0,l,ts=>.ok l ts
 | f+1,l,ts=>if dt [83,71,95] ts then (if l.length=64 then eY 5 ts else (nc ts).bind fun x aJ=>kg f (l++[x]) aJ) else .ok l ts
def my (ts:List aw):PR bj:=
 (cj [66,79,95] ts).bind fun t ts=>(oF ts).bind fun i ts=>(ee ts).bind fun nm ts=>(cj [58] ts).bind fun _ ts=>
 (gQ 2147483648 ts).bind fun sz ts=>(ee ts).bind fun sd ts=>(kg ts.length [] ts).bind fun l ts=>
 .ok ⟨t.line,t.ak,i.1,i.2,nm,sz,sd,l⟩ ts
def qN (s:List UInt8):Option Int:=match Lib.parseIntB 64 s with
 | .ok v=>if Lib.itoa v=s then some v else none
 | _=>none
def nP:Nat→List (Int×List UInt8)→List aw→PR (List (Int×List UInt8))
 | 0,l,ts=>.ok l ts
 | f+1,l,ts=>if (ax ts).kind=2 then (match qN (ax ts).text with
  | none=>eY 8 ts
  | some v=>if l.length=256 then eY 5 ts else (dJ 3 ts.tail).bind fun x aJ=>nP f (l++[(v,x.text)]) aJ) else .ok l ts
def mC (ts:List aw):PR bK:=
 (cj [86,65,76,95] ts).bind fun t ts=>(oF ts).bind fun i ts=>(ee ts).bind fun nm ts=>(nP ts.length [] ts).bind fun l ts=>(cj [59] ts).bind fun _ ts=>
 .ok ⟨t.line,t.ak,i.1,i.2,nm,l⟩ ts
def jr:Nat→List (List UInt8)→List aw→PR (List (List UInt8))
 | 0,l,ts=>.ok l ts
 | f+1,l,ts=>if p8 ts then (ee ts).bind fun nm aJ=>jr f (l++[nm]) aJ else .ok l ts
def NU (ts:List aw):PR (List aX):=
 if dt [86,69,82,83,73,79,78] ts then (dJ 3 ts.tail).bind fun x aJ=>(dQ aJ).bind fun _ iU=>.ok [.bG ⟨(ax ts).line,(ax ts).ak,x.text⟩] iU else .ok [] ts
def yN:Nat→Nat→List aX→List aw→PR (List aX)
 | 0,_,l,ts=>.ok l ts
 | f+1,n,l,ts=>if dt [66,79,95] ts then (if n=512 then eY 5 ts else (my ts).bind fun m aJ=>(dQ aJ).bind fun _ iU=>yN f (n+1) (l++[.msg m]) iU) else .ok l ts
def yO:Nat→List aX→List aw→PR (List aX)
 | 0,l,ts=>.ok l ts
 | f+1,l,ts=>if dt [86,65,76,95] ts then (mC ts).bind fun m aJ=>(dQ aJ).bind fun _ iU=>yO f (l++[.tab m]) iU else .ok l ts
def Cu (l:List aX) (ts:List aw):PR (List aX):=if (ax ts).kind=0 then .ok l ts else iy ts
def zY (ts:List aw):PR (List aX):=
 (dQ ts).bind fun _ ts=>(NU ts).bind fun l0 ts=>(cj [66,85,95] ts).bind fun t ts=>(cj [58] ts).bind fun _ ts=>
 (jr ts.length [] ts).bind fun ns ts=>(dQ ts).bind fun _ ts=>(yN ts.length 0 (l0++[.aR ⟨t.line,t.ak,ns⟩]) ts).bind fun l ts=>
 (yO ts.length l ts).bind fun l ts=>Cu l ts
def fA {α:Type} (p:List aw→PR α):Prop:=∀ ts x aJ,p ts=.ok x aJ→di ts→di aJ∧aJ.length≤ts.length
def pG {α:Type} (p:List aw→PR α):Prop:=∀ ts x aJ,p ts=.ok x aJ→di ts→di aJ∧aJ.length < ts.length
theorem gH {α β:Type} {r:PR α} {f:α→List aw→PR β} {x:β} {aJ:List aw} (h:r.bind f=.ok x aJ):∃ y t,r=.ok y t∧f y t=.ok x aJ:=by
 cases r with
 | ok y t=>exact⟨y,t,rfl,h⟩
 | bad n l c=>cases h
theorem pG.keeps {α:Type} {p:List aw→PR α} (h:pG p):fA p:=fun ts x aJ e hb=>⟨(h ts x aJ e hb).1,gV (h ts x aJ e hb).2⟩
theorem fA.bind {α β:Type} {p:List aw→PR α} {f:α→List aw→PR β} (hp:fA p) (hf:∀ y,fA (f y)):fA (fun ts=>(p ts).bind f):=fun ts x aJ e hb=>by
 obtain⟨y,t,h1,h2⟩:=gH e;obtain⟨b1,l1⟩:=hp _ _ _ h1 hb;obtain⟨b2,l2⟩:=hf y _ _ _ h2 b1;exact⟨b2,ae⟩
theorem pG.bind {α β:Type} {p:List aw→PR α} {f:α→List aw→PR β} (hp:pG p) (hf:∀ y,fA (f y)):pG (fun ts=>(p ts).bind f):=fun ts x aJ e hb=>by
 obtain⟨y,t,h1,h2⟩:=gH e;obtain⟨b1,l1⟩:=hp _ _ _ h1 hb;obtain⟨b2,l2⟩:=hf y _ _ _ h2 b1;exact⟨b2,ae⟩
theorem Zp {α:Type} (x:α):fA (fun ts=>PR.ok x ts):=fun ts y aJ e hb=>by
 cases e
 exact⟨hb,af⟩
theorem tV {ts:List aw} (h:di ts):ts.tail.length < ts.length:=by
 have:=h.1.pos;rw[sZ];omega
theorem jO (t:List UInt8):pG (cj t):=fun ts x aJ e hb=>by
 obtain⟨h1,-,rfl⟩:=qg e hb;exact⟨h1,tV hb⟩
theorem GY (k:Int):pG (dJ k):=fun ts x aJ e hb=>by
 obtain⟨h1,-,rfl,-⟩:=YP e hb;exact⟨h1,tV hb⟩
theorem tX:pG ee:=fun ts x aJ e hb=>by
 obtain⟨h1,-,-,rfl⟩:=Kl e hb;exact⟨h1,tV hb⟩
theorem Kw (b:Nat):pG (gQ b):=fun ts x aJ e hb=>by
 obtain⟨h1,-,rfl⟩:=NC e hb;exact⟨h1,tV hb⟩
theorem Ez:pG mZ:=fun ts x aJ e hb=>by
 obtain⟨h1,rfl,-⟩:=ND e hb;exact⟨h1,tV hb⟩
theorem agX:fA p9:=fun ts x aJ e hb=>agR e hb
theorem agY:pG uP:=fun ts x aJ e hb=>by
 unfold uP iy eY at e;split at e
 ·rename_i h
  cases e
  exact⟨hb.tail (by rw[h.1];decide),tV hb⟩
 ·cases e
theorem Zq {ts aJ:List aw} {x:Nat×Bool} (h:oF ts=.ok x aJ) (hb:di ts):di aJ∧aJ = ts.tail∧x.1 < 2147483648:=by
 unfold oF at h;split at h
 ·rename_i n t hw
  cases h
  obtain⟨h1,-,h2⟩:=NC hw hb;exact⟨h1,h2,ic _ ah⟩
 ·cases h
theorem SS:pG oF:=fun ts x aJ e hb=>by
 obtain⟨h1,rfl,-⟩:=Zq e hb;exact⟨h1,tV hb⟩
theorem EA:fA dQ:=fun ts x aJ e hb=>YQ _ e hb
theorem NV:∀ (f:Nat) {l r:List (List UInt8)} {ts aJ:List aw},lO f l ts=.ok r aJ→di ts→di aJ∧aJ.length≤ts.length∧r.length+aJ.length≤l.length+ts.length
 | 0,l,r,ts,aJ,h,hb=>by
  cases h
  exact⟨hb,af,af⟩
 | f+1,l,r,ts,aJ,h,hb=>by
  unfold lO at h;split at h
  ·rename_i hs
   obtain⟨y,t,h1,h2⟩:=gH h;obtain⟨b1,l1⟩:=tX _ _ _ h1 (hb.tail (mY hs));obtain⟨b2,l2,l3⟩:=NV f h2 b1;have:=tV hb;rw[ey,dz,lF]at l3;exact⟨b2,ae,ae⟩
  ·cases h
   exact⟨hb,af,af⟩
theorem agZ (l:List (List UInt8)):fA (fun ts=>lO ts.length l ts):=fun ts x aJ e hb=>⟨(NV _ e hb).1,(NV _ e hb).2.1⟩
theorem SU:pG nc:=
 pG.bind (jO _) fun _=>fA.bind tX.keeps fun _=>fA.bind agX fun _=>fA.bind (jO _).keeps fun _=>
 fA.bind (Kw _).keeps fun _=>fA.bind (jO _).keeps fun _=>fA.bind (Kw _).keeps fun _=>fA.bind agY.keeps fun _=>
 fA.bind (jO _).keeps fun _=>fA.bind Ez.keeps fun _=>fA.bind (jO _).keeps fun _=>fA.bind Ez.keeps fun _=>fA.bind (jO _).keeps fun _=>
 fA.bind (jO _).keeps fun _=>fA.bind Ez.keeps fun _=>fA.bind (jO _).keeps fun _=>fA.bind Ez.keeps fun _=>fA.bind (jO _).keeps fun _=>
 fA.bind (GY _).keeps fun _=>fA.bind tX.keeps fun _=>fA.bind (agZ _) fun _=>Zp _
theorem SV:∀ (f:Nat) {l r:List et} {ts aJ:List aw},kg f l ts=.ok r aJ→l.length≤64→di ts→di aJ∧aJ.length≤ts.length∧r.length≤64
 | 0,l,r,ts,aJ,h,hl,hb=>by
  cases h
  exact⟨hb,af,hl⟩
 | f+1,l,r,ts,aJ,h,hl,hb=>by
  unfold kg eY at h;split at h
  ·split at h
   ·cases h
   ·rename_i hne
    obtain⟨y,t,h1,h2⟩:=gH h;obtain⟨b1,l1⟩:=SU _ _ _ h1 hb;obtain⟨b2,l2,l3⟩:=SV f h2 Px b1;exact⟨b2,ae,l3⟩
  ·cases h
   exact⟨hb,af,hl⟩
theorem ag0:fA (fun ts=>kg ts.length [] ts):=fun ts x aJ e hb=>⟨(SV _ e aB hb).1,(SV _ e aB hb).2.1⟩
theorem Zr:pG my:=
 pG.bind (jO _) fun _=>fA.bind SS.keeps fun _=>fA.bind tX.keeps fun _=>fA.bind (jO _).keeps fun _=>
 fA.bind (Kw _).keeps fun _=>fA.bind tX.keeps fun _=>fA.bind ag0 fun _=>Zp _
theorem SX:∀ (f:Nat) {l r:List (Int×List UInt8)} {ts aJ:List aw},nP f l ts=.ok r aJ→l.length≤256→di ts→di aJ∧aJ.length≤ts.length∧r.length≤256
 | 0,l,r,ts,aJ,h,hl,hb=>by
  cases h
  exact⟨hb,af,hl⟩
 | f+1,l,r,ts,aJ,h,hl,hb=>by
  unfold nP eY at h;split at h
  ·rename_i hk
   split at h
   ·cases h
   ·split at h
    ·cases h
    ·rename_i hne
     obtain⟨y,t,h1,h2⟩:=gH h;obtain⟨b1,l1⟩:=GY _ _ _ _ h1 (hb.tail qp);obtain⟨b2,l2,l3⟩:=SX f h2 Px b1;have:=tV hb;exact⟨b2,ae,l3⟩
  ·cases h
   exact⟨hb,af,hl⟩
theorem aqV:fA (fun ts=>nP ts.length [] ts):=fun ts x aJ e hb=>⟨(SX _ e aB hb).1,(SX _ e aB hb).2.1⟩
theorem ag1:pG mC:=
 pG.bind (jO _) fun _=>fA.bind SS.keeps fun _=>fA.bind tX.keeps fun _=>fA.bind aqV fun _=>fA.bind (jO _).keeps fun _=>Zp _
theorem ag2:∀ (f:Nat) {l r:List (List UInt8)} {ts aJ:List aw},jr f l ts=.ok r aJ→di ts→di aJ∧aJ.length≤ts.length∧r.length+aJ.length≤l.length+ts.length
 | 0,l,r,ts,aJ,h,hb=>by
  cases h
  exact⟨hb,af,af⟩
 | f+1,l,r,ts,aJ,h,hb=>by
  unfold jr at h;split at h
  ·obtain⟨y,t,h1,h2⟩:=gH h;obtain⟨b1,l1⟩:=tX _ _ _ h1 hb;obtain⟨b2,l2,l3⟩:=ag2 f h2 b1;rw[ey,dz,lF]at l3;exact⟨b2,ae,ae⟩
  ·cases h
   exact⟨hb,af,af⟩
def wE (r q:Int×Int):Prop:=q.1 < r.1∨r.1=q.1∧q.2 < r.2
theorem wE.trans {a b c:Int×Int} (h:wE a b) (h2:wE b c):wE a c:=by unfold wE at *;omega
theorem wE.irr {a:Int×Int} (h:wE a a):False:=by unfold wE at h;omega
theorem agF (p:Int×Int) (r:Nat):wE (bW p r) p:=by
 unfold wE bW;split
 ·left;show p.1 < p.1+1;omega
 ·right;exact⟨rfl,by show p.2 < p.2+1;omega⟩
theorem eN.aft {s:List UInt8} {p q:Int×Int} {n:Nat} (h:eN s p n q):q=p∧n=0∨wE q p:=by
 induction h with
 | zero s p=>exact .inl ⟨rfl,rfl⟩
 | step s p n q hne h ih=>
  rcases ih with ⟨rfl,_⟩|h2
  ·exact .inr (agF _ _)
  ·exact .inr (h2.trans (agF _ _))
theorem eN.agG {s:List UInt8} {p q:Int×Int} {i:Nat} (h:eN s p i q):∀ {j:Nat} {r:Int×Int},eN s p j r→i < j→wE r q:=by
 induction h with
 | zero s p=>
  intro j r h2 uV;rcases h2.aft with ⟨_,h3⟩|h3
  ·omega
  ·exact h3
 | step s p n q hne h ih=>
  intro j r h2 uV;cases h2 with
  | zero=>omega
  | step _ _ m _ _ h3=>exact ih h3 ae
theorem eN.uniq {s:List UInt8} {p q:Int×Int} {i j:Nat} (h:eN s p i q) (h2:eN s p j q):i=j:=by
 rcases Nat.lt_trichotomy i j with h3|h3|h3
 ·exact(h.agG h2 h3).irr.elim
 ·exact h3
 ·exact(h2.agG h h3).irr.elim
inductive sw (s:List UInt8):Nat→List aw→Prop where
 | fin (n:Nat) (q:Int×Int) (hn:n≤s.length) (hb:eN s (1,1) s.length q):sw s n [qb q]
 | tok (n i m:Nat) (t:aw) (r:List aw) (hn:n≤i) (hi:i < s.length) (hb:eN s (1,1) i (t.line,t.ak)) (ht:gG (s.drop i)=.good t.kind t.text m) (hm:1≤m) (hr:sw s (i+m) r):sw s n (t::r)
theorem sw.mono {s:List UInt8} {n k:Nat} {l:List aw} (h:sw s n l) (hk:k≤n):sw s k l:=by
 cases h with
 | fin _ q hn hb=>exact .fin _ q ae hb
 | tok _ i m t r hn hi hb ht hm hr=>exact .tok _ i m t r ae hi hb ht hm hr
theorem nV.chain {s:List UInt8} {V:qG} {l:List aw} (hV:V=.good l):∀ (f i:Nat) (acc:List aw) (q:Int×Int),s.length - i≤f→nV s V i acc q→∃ r,l=acc++r∧sw s i r:=by
 have done:∀ (i:Nat) (acc:List aw) (q:Int×Int),i=s.length→nV s V i acc q→∃ r,l=acc++r∧sw s i r:=fun i acc q hi h=>by
  have h2:=h.fin hi;rw[hV]at h2;injection h2 with h2
  subst hi;exact⟨[qb q],h2,.fin _ q af h.hb⟩
 intro f
 induction f with
 | zero=>intro i acc q hf h;exact done i acc q (by have:=h.hk;omega) h
 | succ f ih=>
  intro i acc q hf h;by_cases hlt:i < s.length
  ·cases hb:iR s[i].toNat
   ·cases ht:gG (s.drop i)with
    | bad e=>
     have:=h.bad hlt hb ht;rw[hV]at this;cases this
    | good k t n=>
     obtain⟨h1,q',h2⟩:=h.good hlt hb ht;obtain⟨r,h3,h4⟩:=ih (i+n) _ q' ae h2;exact⟨⟨k,t,q.1,q.2⟩::r,by rw[h3,o6];rfl,.tok _ i n ⟨k,t,q.1,q.2⟩ r af hlt h.hb ht h1 h4⟩
   ·obtain⟨q',h2⟩:=h.blank hlt hb;obtain⟨r,h3,h4⟩:=ih (i+1) _ q' ae h2;exact⟨r,h3,h4.mono (Nat.le_succ _)⟩
  ·exact done i acc q (by have:=h.hk;omega) h
theorem V3 {s:List UInt8} {l:List aw} (h:gB s=.good l):sw s 0 l:=by
 have h2:gB s=fX s.length s 0 (1,1) []:=by
  rcases aeN s with ⟨_,_,h3⟩|⟨_,_,_,h3⟩
  ·exact h3
  ·rw[h]at h3;cases h3
 have h3:nV s (gB s) 0 [] (1,1):=⟨bV _,.zero _ _,h2⟩
 obtain⟨r,h4,h5⟩:=nV.chain h s.length 0 [] (1,1) ae h3;rw[mf]at h4;rw[h4];exact h5
theorem YC:∀ (l:List UInt8) (k:Nat),tw (l.take k)=(tw l).take k
 | [],k=>by simp[tw]
 | c::t,0=>by simp[tw]
 | c::t,k+1=>by
  rw[vM];cases h:fq c
  ·rw[uw h,uw h];simp
  ·rw[sx h,sx h,vM,YC t k]
theorem agH:∀ (l:List UInt8),dw l=l.drop (tw l).length
 | []=>rfl
 | c::t=>by
  cases h:fq c
  ·rw[uw h,Sn h];rfl
  ·rw[sx h,GF h,agH t];rfl
theorem YD (l:List UInt8) (k:Nat) (h:(tw l).length≤k):dw (l.take k)=(l.drop (tw l).length).take (k - (tw l).length):=by
 rw[agH,YC,uC,Nat.min_eq_right h,List.drop_take]
theorem YE (l:List UInt8) (k:Nat) (h:(tw l).length≤k):tw (l.take k)=tw l:=by
 rw[YC,IA h]
theorem agI:∀ (l:List UInt8) (k:Nat),(eF (l.take (dA l+k))).2=(l.drop (dA l)).take k
 | [],k=>by simp[eF]
 | c::t,k=>by
  show(eF ((c::t).take ((if eW c=true then 1 else 0)+k))).2=((c::t).drop (if eW c=true then 1 else 0)).take k;cases h:eW c
  ·rw[if_neg ah,kF];cases k with
   | zero=>rfl
   | succ k=>simp[eF,h]
  ·rw[if_pos rfl,BD,vM];simp[eF,h]
theorem agJ {s:List UInt8} {n N:Nat} (h:kM s n=N) (hN:N≠0):N=n:=by
 rw[Sy]at h;split at h
 ·exact absurd h.symm hN
 ·exact h.symm
theorem agK {s:List UInt8} {n N:Nat} (h:kN s n=N) (hN:N≠0):n≤N∧∃ d p,sD ((s.drop n).take (N - n))=some (d,p,[]):=by
 by_cases hn:n < s.length
 ·unfold kN at h;rw[Gf hn]at h;simp only at h;split at h
  ·rename_i hE
   split at h
   ·exact absurd h.symm hN
   ·rename_i uX
    have:=agJ h hN;refine⟨ae,(eF ((s.drop (n+1)).take (dA (s.drop (n+1))+(tw (s.drop (n+1+dA (s.drop (n+1))))).length))).1,tw (s.drop (n+1+dA (s.drop (n+1)))),?_⟩;rw[jq hn,show N - n=(dA (s.drop (n+1))+(tw (s.drop (n+1+dA (s.drop (n+1))))).length)+1 by omega,vM];unfold sD;simp only[hE,kG];have h1:=agI (s.drop (n+1)) (tw (s.drop (n+1+dA (s.drop (n+1))))).length;rw[lG]at h1;rw[h1,YE _ _ af,if_neg uX,YD _ _ af,Nat.sub_self,List.take_zero]
  ·have:=agJ h hN;subst this;exact⟨af,false,[],by rw[Nat.sub_self,List.take_zero];rfl⟩
 ·rw[MN hn]at h;subst h;exact⟨af,false,[],by rw[Nat.sub_self,List.take_zero];rfl⟩
theorem aqw {s:List UInt8} {n N:Nat} (h:ni s n=N) (hN:N≠0):n≤N∧∃ b r d p,qf ((s.drop n).take (N - n))=some (b,r)∧sD r=some (d,p,[]):=by
 by_cases hn:n < s.length
 ·unfold ni at h;rw[Gf hn]at h;simp only at h;split at h
  ·rename_i hE
   split at h
   ·exact absurd h.symm hN
   ·rename_i uX
    obtain⟨h1,d,p,h2⟩:=agK h hN;refine⟨ae,tw (s.drop (n+1)),(s.drop (n+(1+(tw (s.drop (n+1))).length))).take (N - (n+(1+(tw (s.drop (n+1))).length))),d,p,?_,h2⟩;rw[jq hn,show N - n=(N - n - 1)+1 by omega,vM,hE];unfold qf;simp only[kG];rw[YE _ _ ae,if_neg uX,YD _ _ ae,lG,show n+1+(tw (s.drop (n+1))).length=n+(1+(tw (s.drop (n+1))).length)by omega,show N - n - 1 - (tw (s.drop (n+1))).length=N - (n+(1+(tw (s.drop (n+1))).length))by omega]
  ·rename_i hE
   obtain⟨h1,d,p,h2⟩:=agK h hN;refine⟨h1,[],(s.drop n).take (N - n),d,p,?_,h2⟩;rw[jq hn];cases hk:N - n with
   | zero=>rfl
   | succ k=>rw[vM];unfold qf;simp only;rw[if_neg hE]
 ·rw[WJ hn]at h;subst h;exact⟨af,[],[],false,[],by rw[Nat.sub_self,List.take_zero];rfl,rfl⟩
theorem aqx {s:List UInt8} (h1:tw (s.drop (dA s))≠[]) (h2:fg s≠0):∃ x,nd (s.take (fg s))=some x:=by
 obtain⟨N,hN⟩:∃ N,fg s=N:=⟨_,rfl⟩
 rw[hN]at h2 ⊢;have h3:ni s (dA s+(tw (s.drop (dA s))).length)=N:=hN;obtain⟨h4,b,r,d,p,h5,h6⟩:=aqw h3 h2;have e:=agI s (N - dA s);rw[show dA s+(N - dA s)=N by omega]at e;rw[r0,e,YE _ _ ae,if_neg h1,YD _ _ ae,lG,show N - dA s - (tw (s.drop (dA s))).length=N - (dA s+(tw (s.drop (dA s))).length)by omega];unfold Co;rw[h5];simp only;unfold sH;rw[h6];simp
theorem ami {s:List UInt8} (hne:s≠[]) {t:List UInt8} {n:Nat} (h:gG s=.good 2 t n):∃ x,nd t=some x:=by
 obtain⟨c,u,rfl⟩:=List.exists_cons_of_ne_nil hne;rw[ME]at h;split at h
 ·cases h
 ·split at h
  ·rename_i h2
   split at h
   ·cases h
   ·rename_i h3
    cases h
    exact aqx (YF c u h2) h3
  ·split at h
   ·unfold rz at h;split at h
    ·cases h
    ·split at h
     ·exact Bb
     ·cases h
   ·split at h
    ·cases h
    ·exact Bb
abbrev Mark:Type:=List UInt8×Int×Int
def mkT (t:aw):Mark:=(t.text,t.line,t.ak)
def aeT (x:et):Mark:=([83,71,95],x.d.line,x.d.ak)
def Ck (m:bj):List Mark:=([66,79,95],m.line,m.ak)::m.sigs.map aeT
def Gd:aX→List Mark
 | .bG v=>[([86,69,82,83,73,79,78],v.line,v.ak)]
 | .aR s=>[([66,85,95],s.line,s.ak)]
 | .msg m=>Ck m
 | .tab t=>[([86,65,76,95],t.line,t.ak)]
def anK (t:aw):Prop:=t.kind=1∨t.kind=4
def Holds (u:List aw) (m:List Mark):Prop:=∃ s:List aw,List.Sublist s u∧s.map mkT=m∧∀ t∈s,anK t
theorem alE {x t:List UInt8} (h:uN x=.good t):lK t=0:=by
 unfold uN at h;split at h
 ·cases h
 ·cases h
 ·split at h
  ·unfold DL at h;split at h
   ·cases h
   ·cases h
   ·split at h
    ·unfold xQ at h;split at h
     ·rename_i h2
      cases h;exact h2
     ·cases h
    ·cases h
  ·cases h
theorem alF {t:List UInt8} (h:lK t=0):t.length≤1024:=by
 unfold lK at h;split at h
 ·cases h
 ·omega
theorem alG {s t:List UInt8} {k:Int} {n:Nat} (h:rz s=.good k t n):t.length≤1024:=by
 unfold rz at h;split at h
 ·cases h
 ·split at h
  ·exact Bb
  ·rename_i hq
   cases h
   exact alF (alE hq)
theorem alH {s t:List UInt8} {k:Int} {n:Nat} (h:gG s=.good k t n):t.length≤1024∨t.length≤s.length:=by
 have ht:∀ m,(s.take m).length≤s.length:=fun m=>Fe
 unfold gG at h;split at h
 ·cases h;exact .inr (ht _)
 ·split at h
  ·split at h
   ·cases h
   ·cases h;exact .inr (ht _)
  ·split at h
   ·exact .inl (alG h)
   ·split at h
    ·cases h;exact .inr (ht _)
    ·split at h
     ·cases h;exact .inr (ht _)
     ·cases h
theorem sw.ends {s:List UInt8} {n:Nat} {l:List aw} (h:sw s n l):pj l∧∀ t∈l,t.text.length≤1024∨t.text.length≤s.length:=by
 induction h with
 | fin n q hn hb=>exact⟨⟨[],qb q,rfl,rfl⟩,fun t ht=>by rw[oY]at ht;subst ht;exact .inl (by simp[qb])⟩
 | tok n i m t r hn hi hb ht hm hr ih=>
  obtain⟨⟨l',e,h1,h2⟩,h3⟩:=ih;refine⟨⟨t::l',e,by rw[h1];rfl,h2⟩,fun x hx=>?_⟩;rcases nL.1 hx with rfl|hx
  ·rcases alH ht with h4|h4
   ·exact .inl h4
   ·rw[e7]at h4;exact .inr ae
  ·exact h3 x hx
theorem Mu {s:List UInt8} {l:List aw} (h:gB s=.good l):di l:=by
 obtain⟨h1,h2,-,-⟩:=QT h;obtain⟨h3,h4⟩:=(V3 h).ends;refine⟨h3,fun t ht=>?_,ae⟩;have:=h4 t ht;omega
theorem V6:∀ (f:Nat) (s:List UInt8) (sk:Nat) (p:Int×Int) (acc:List aw) (v:Value),fX f s sk p acc=.bad v→∃ no l c,v=eH no l c∧1≤no∧no≤26
 | 0,s,sk,p,acc,v,h=>by simp[fX]at h
 | f+1,s,sk,p,acc,v,h=>by
  by_cases h0:s=[]
  ·subst h0;rw[tK]at h;cases h
  ·rw[F3 h0]at h;split at h
   ·have dp:=MA s h0;cases ht:gG s with
    | bad e=>
     rw[ht]at h dp;cases h
     obtain⟨h1,h2⟩:=dp;exact⟨_,_,_,rfl,ae,ae⟩
    | good k t n=>rw[ht]at h;exact V6 f _ _ _ _ v h
   ·exact V6 f _ _ _ _ v h
theorem alI {s:List UInt8} {v:Value} (h:gB s=.bad v):v=dE 5∨∃ no l c,v=eH no l c∧1≤no∧no≤26:=by
 unfold gB at h;split at h
 ·cases h;exact .inl rfl
 ·split at h
  ·exact .inr (V6 _ _ _ _ _ _ h)
  ·cases h;exact .inr ⟨_,_,_,rfl,ah,ah⟩
inductive aea where
 | bad (v:Value)
 | good (l:List aX)
def jX (s:List UInt8):aea:=match gB s with
 | .bad v=>.bad v
 | .good ts=>match zY ts with
  | .ok l _=>.good l
  | .bad no l c=>.bad (eH no l c)
end Go.Proofs.YtfflljgnpfldfaaGreatDoor
