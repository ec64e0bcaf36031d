/-
  Plain: a scan by units beside a scan by bytes: the units' beginnings.
-/
import Derived.Test.YtfflljgnpfldfaaGreatDoorLexG
set_option linter.all false
set_option maxHeartbeats 128000000
namespace Go.Proofs.YtfflljgnpfldfaaGreatDoor
open Go.RowKit Go.Shelf
theorem WY {p:UInt8→Bool} (x:UInt8) (m:List UInt8) (hx:p x=false):∀ s:List UInt8,(s++x::m).takeWhile p=s.takeWhile p
 | []=>by rw[mf,sY,hx];rfl
 | c::t=>by
  rw[uD,sY,sY,WY x m hx t]
theorem WZ {s m:List UInt8} {n:Nat} (h:n < s.length):(s++m)[n]? = s[n]?:=Bp h
theorem Xa (s:List UInt8) (x:UInt8) (m:List UInt8):(s++x::m)[s.length]? = some x:=aB
theorem Gl {s m:List UInt8} {n:Nat} (h:n≤s.length):(s++m).drop n=s.drop n++m:=List.drop_append_of_le_length h
theorem aeP (s m:List UInt8):dA (s++10::m)=dA s:=by
 cases s with
 | nil=>rfl
 | cons c t=>rfl
theorem Xb (s m:List UInt8):tw (s++10::m)=tw s:=by unfold tw;exact WY 10 m ah s
theorem Xc {s:List UInt8} (m:List UInt8) {n:Nat} (h:n≤s.length):kM (s++10::m) n=kM s n:=by
 rcases lI n s.length with h1|h1
 ·unfold kM;rw[WZ h1]
 ·obtain rfl:n=s.length:=by omega
  rw[MM (Dn _)];unfold kM;rw[Xa];rfl
theorem Xd {s:List UInt8} (m:List UInt8) {n:Nat} (h:n≤s.length):kN (s++10::m) n=kN s n:=by
 rcases lI n s.length with h1|h1
 ·refine qW (D7 (s.drop (n+1))) ?_;intro cV;unfold kN;rw[WZ h1,Gl (by omega:n+1≤s.length),aeP,Gl (by omega:n+1+dA (s.drop (n+1))≤s.length),Xb];refine qW (wA (s.drop (n+1+dA (s.drop (n+1))))) ?_;intro ht;rw[Xc m ae,Xc m h]
 ·obtain rfl:n=s.length:=by omega
  rw[MN (Dn _)];unfold kN;rw[Xa];show kM _ _=_;rw[Xc m af,MM (Dn _)]
theorem anv {s:List UInt8} (m:List UInt8) {n:Nat} (h:n≤s.length):ni (s++10::m) n=ni s n:=by
 rcases lI n s.length with h1|h1
 ·unfold ni;rw[WZ h1,Gl (by omega:n+1≤s.length),Xb];refine qW (wA (s.drop (n+1))) ?_;intro ht;rw[Xd m ae,Xd m h]
 ·obtain rfl:n=s.length:=by omega
  rw[WJ (Dn _)];unfold ni;rw[Xa];show kN _ _=_;rw[Xd m af,MN (Dn _)]
theorem anw (s m:List UInt8):fg (s++10::m)=fg s:=by
 have cV:=D7 s;refine qW (wA (s.drop (dA s))) ?_;intro ht;unfold fg;rw[aeP,Gl (by omega:dA s≤s.length),Xb,anv m ae]
theorem anx (s m:List UInt8):l9 (s++10::m)=l9 s:=by unfold l9;rw[WY 10 m ah s]
theorem Rt:∀ (l:List UInt8) (b:Bool) (i k:Nat) (m:List UInt8),eQ b i l=some k→eQ b i (l++m)=some k
 | [],b,i,k,m,h=>by rw[Ce]at h;cases h
 | c::t,true,i,k,m,h=>Rt t false (i+1) k m h
 | c::t,false,i,k,m,h=>by
  have h1:(if c=92 then eQ true (i+1) t else if c=34 then some i else eQ false (i+1) t)=some k:=h;show(if c=92 then eQ true (i+1) (t++m) else if c=34 then some i else eQ false (i+1) (t++m))=some k;split
  ·rename_i hc;rw[if_pos hc]at h1;exact Rt t true (i+1) k m h1
  ·rename_i hc
   rw[if_neg hc]at h1;split
   ·rename_i h2;rw[if_pos h2]at h1;exact h1
   ·rename_i h2;rw[if_neg h2]at h1;exact Rt t false (i+1) k m h1
theorem anz {n n' b0 b1 b2 b3 c1 c2 c3:Nat} (hn:1≤n) (zS:n≤n') (e1:2≤n→c1=b1) (e2:3≤n→c2=b2) (e3:4≤n→c3=b3)
  (z7:¬ ((Lib.decodeN n b0 b1 b2 b3).1=65533∧(Lib.decodeN n b0 b1 b2 b3).2=1)):Lib.decodeN n' b0 c1 c2 c3=Lib.decodeN n b0 b1 b2 b3:=by
 revert z7;unfold Lib.decodeN;split
 ·intro _;rfl
 split
 ·rename_i h6
  split
  ·rename_i h;intro _
   obtain rfl:=e1 ae;rw[if_pos ae,if_pos h]
  ·exact Pl
 split
 ·rename_i h6
  split
  ·rename_i h;intro _
   obtain rfl:=e1 ae;obtain rfl:=e2 ae;rw[if_neg ae,if_pos ae,if_pos h]
  ·exact Pl
 split
 ·rename_i h6
  split
  ·rename_i h;intro _
   obtain rfl:=e1 ae;obtain rfl:=e2 ae;obtain rfl:=e3 ae;rw[if_neg ae,if_neg ae,if_pos ae,if_pos h]
  ·exact Pl
 ·exact Pl
theorem aeQ (s m:List UInt8) (hne:s≠[]) (z7:gF (ay s).1 (ay s).2=false):ay (s++m)=ay s:=by
 have bm:0 < s.length:=qs.2 hne;have hg:∀ j,j < s.length→(s++m).getD j 0=s.getD j 0:=fun j hj=>by rw[Iv,Bp hj,Iv]
 have hi:¬ ((ay s).1=65533∧(ay s).2=1):=by
  rintro⟨h1,h2⟩;unfold gF at z7;rw[h1,h2]at z7;exact absurd z7 ah
 unfold ay at hi ⊢;rw[hg 0 bm];exact anz bm Lv (fun h=>by rw[hg 1 ae]) (fun h=>by rw[hg 2 ae]) (fun h=>by rw[hg 3 ae]) hi
theorem Xe {s:List UInt8} (h:jv s=true):3≤s.length:=by
 rcases lI s.length 3 with h3|h3
 ·exfalso;unfold jv at h;have hl3:(s.take 3).length < 3:=Fe;have hb:∀ a b c,(s.take 3 == [a,b,c])=false:=fun a b c=>by
   exact acr
  rw[hb,hb,hb,hb]at h;exact absurd h ah
 ·exact h3
theorem JG {s m:List UInt8} {n:Nat} (h:n≤s.length):(s++m).take n=s.take n:=List.take_append_of_le_length h
theorem anA (R:Nat) (s m:List UInt8) (hne:s≠[]):jI R (s++10::m)=jI R s:=by
 unfold jI;rcases s with _|⟨c,_|⟨d,t⟩⟩
 ·exact absurd rfl hne
 ·simp[eZ]
 ·rfl
theorem anB (s m:List UInt8) (hne:s≠[]) {k:Int} {t:List UInt8} {n:Nat} (h:rz s=.good k t n):rz (s++m)=.good k t n:=by
 have bm:0 < s.length:=qs.2 hne;unfold rz at h ⊢;rw[Gl (by omega:1≤s.length)];cases he:eQ false 1 (s.drop 1)with
 | none=>rw[he]at h;cases h
 | some i=>
  rw[he]at h;rw[Rt _ _ _ _ m he];simp only at h ⊢;refine qW (JE _ _ _ _ he) ?_;intro hl;rw[JG (by omega:i+1≤s.length)];exact h
theorem anC (s m:List UInt8) (hne:s≠[]) (z7:gF (ay s).1 (ay s).2=false) {k:Int} {t:List UInt8} {n:Nat} (h:gG s=.good k t n):gG (s++10::m)=.good k t n:=by
 have bm:0 < s.length:=qs.2 hne;rw[← h];unfold gG at h ⊢;rw[aeQ s (10::m) hne z7,anx,anw,anA _ _ _ hne,JG (Rl s),JG (Rm s),JG (by omega:1≤s.length)];split
 ·rfl
 rename_i h1
 rw[if_neg h1]at h;split
 ·rfl
 rename_i h2
 rw[if_neg h2]at h;split
 ·rename_i h3;rw[if_pos h3]at h;rw[anB s _ hne h,h]
 rename_i h3
 rw[if_neg h3]at h;split
 ·rfl
 rename_i h4
 rw[if_neg h4]at h;by_cases h5:jv s=true
 ·have hl:=Xe h5;have e:jv (s++10::m)=true:=(by unfold jv at h5 ⊢;rw[JG hl];exact h5);rw[if_pos e,if_pos h5,JG hl]
 ·rw[if_neg h5]at h;cases h
theorem aeR (s:List UInt8) (hne:s≠[]) {k:Int} {t:List UInt8} {n:Nat} (h:gG s=.good k t n):n≤s.length:=by
 have:=MA s hne;rw[h]at this;exact this.1
theorem F3 {f:Nat} {s:List UInt8} {sk:Nat} {p:Int×Int} {acc:List aw} (hne:s≠[]):fX (f+1) s sk p acc=if sk=0∧iR (ay s).1=false then
   match gG s with
   | .bad e=>.bad (eH (e:Nat) p.1 p.2)
   | .good k t n=>fX f (s.drop (ay s).2) (n - (ay s).2) (bW p (ay s).1) (acc++[⟨k,t,p.1,p.2⟩])
  else fX f (s.drop (ay s).2) (sk - (ay s).2) (bW p (ay s).1) acc:=by
 rw[fX,if_neg hne];split
 ·cases gG s<;>rfl
 ·rfl
theorem MW:∀ (f g:Nat) (s:List UInt8) (sk:Nat) (p:Int×Int) (acc:List aw),s.length≤f→s.length≤g→fX f s sk p acc=fX g s sk p acc
 | 0,g,s,sk,p,acc,h1,h2=>by
  have:s=[]:=pS.1 ae;subst this;rw[tK,tK]
 | f+1,0,s,sk,p,acc,h1,h2=>by
  have:s=[]:=pS.1 ae;subst this;rw[tK,tK]
 | f+1,g+1,s,sk,p,acc,h1,h2=>by
  by_cases h0:s=[]
  ·subst h0;rw[tK,tK]
  ·rw[F3 h0,F3 h0];have a1:=tN h1;have a2:=tN h2;split
   ·cases gG s with
    | bad e=>rfl
    | good k t n=>exact MW f g _ _ _ _ a1 a2
   ·exact MW f g _ _ _ _ a1 a2
def Ea (f:Nat) (s:List UInt8):Prop:=∀ u∈dc f s (1,1),iZ u.rune u.wide=false
theorem Xf:∀ (f:Nat) (s:List UInt8) (p q:Int×Int),(dc f s p).map (fun u=>(u.rune,u.wide))=(dc f s q).map (fun u=>(u.rune,u.wide))
 | 0,_,_,_=>rfl
 | f+1,s,p,q=>by
  unfold dc;split
  ·rfl
  ·rw[zH,zH,Xf f _ (bW p _) (bW q _)]
theorem anD (f:Nat) (s:List UInt8) (p:Int×Int) (h:Ea f s):∀ u∈dc f s p,iZ u.rune u.wide=false:=by
 intro u hu;have h1:(u.rune,u.wide)∈(dc f s p).map (fun u=>(u.rune,u.wide)):=td.2 ⟨u,hu,rfl⟩;rw[Xf f s p (1,1)]at h1;obtain⟨v,hv,e⟩:=td.1 h1;have:=h v hv;simp only[Prod.mk.injEq]at e;rw[e.1,e.2]at this;exact this
theorem anE (f:Nat) (s:List UInt8) (p:Int×Int) (h:∀ u∈dc f s p,iZ u.rune u.wide=false):Ea f s:=by
 intro u hu;have h1:(u.rune,u.wide)∈(dc f s (1,1)).map (fun u=>(u.rune,u.wide)):=td.2 ⟨u,hu,rfl⟩;rw[Xf f s (1,1) p]at h1;obtain⟨v,hv,e⟩:=td.1 h1;have:=h v hv;simp only[Prod.mk.injEq]at e;rw[e.1,e.2]at this;exact this
theorem anF {f:Nat} {s:List UInt8} (hne:s≠[]):Ea (f+1) s↔iZ (ay s).1 (ay s).2=false∧Ea f (s.drop (ay s).2):=by
 have e:∀ p,dc (f+1) s p=⟨p.1,p.2,(ay s).1,(ay s).2⟩::dc f (s.drop (ay s).2) (bW p (ay s).1):=fun p=>by
  show(if s=[] then [] else _)=_;rw[if_neg hne]
 constructor
 ·intro h;unfold Ea at h;rw[e]at h;exact⟨h _ (List.mem_cons_self ..),anE f _ _ (fun u hu=>h u (Dj _ hu))⟩
 ·rintro⟨h1,h2⟩ u hu;rw[e]at hu;rcases nL.1 hu with rfl|hu
  ·exact h1
  ·exact anD f _ _ h2 u hu
theorem anG (s:List UInt8):tG s=none↔Ea s.length s:=by
 unfold tG aK Ea;rw[List.find?_eq_none];simp
theorem anH {r n:Nat} (h:iZ r n=false):gF r n=false:=by unfold iZ at h;rw[Bt]at h;exact h.1
theorem Xg:∀ (f:Nat) (s m:List UInt8) (g sk:Nat) (p:Int×Int) (acc l:List aw),s.length≤f→(s++10::m).length≤g→Ea f s→sk≤s.length→fX f s sk p acc=.good l →
  ∃ T,l=T++[qb (Eb f s p)]∧fX g (s++10::m) sk p acc=fX (m.length+1) (10::m) 0 (Eb f s p) T
 | 0,s,m,g,sk,p,acc,l,h1,h2,hf,hsk,h=>by
  have:s=[]:=pS.1 ae;subst this;rw[tK]at h;cases h
  have:sk=0:=by simpa using hsk
  subst this;refine⟨acc,rfl,?_⟩;rw[mf]at h2 ⊢;exact MW _ _ _ _ _ _ h2 aB
 | f+1,s,m,g,sk,p,acc,l,h1,h2,hf,hsk,h=>by
  by_cases h0:s=[]
  ·subst h0;rw[tK]at h;cases h
   have:sk=0:=by simpa using hsk
   subst this;refine⟨acc,by simp[Eb],?_⟩;rw[mf]at h2 ⊢;rw[show Eb (f+1) [] p=p by simp[Eb]];exact MW _ _ _ _ _ _ h2 aB
  ·rw[anF h0]at hf;have z7:=anH hf.1;have hne:s++10::m≠[]:=aB;have hd:=aeQ s (10::m) h0 z7;have hw:=(pd s).2.2 h0;have hw1:=(pd s).1;rcases g with _|g
   ·have:=qs.2 hne;omega
   have he:Eb (f+1) s p=Eb f (s.drop (ay s).2) (bW p (ay s).1):=by
    show(if s=[] then p else _)=_;rw[if_neg h0]
   have h3:(s.drop (ay s).2++10::m).length≤g:=by
    rw[← Gl hw,← hd];exact tN h2
   rw[F3 h0]at h;rw[F3 hne,hd,Gl hw,he];by_cases hc:sk=0∧iR (ay s).1=false
   ·rw[if_pos hc]at h ⊢;cases ht:gG s with
    | bad e=>rw[ht]at h;cases h
    | good k t n=>
     rw[ht]at h;rw[anC s m h0 z7 ht];simp only at h ⊢;exact Xg f _ m g _ _ _ l (tN h1) h3 hf.2 (by rw[e7];have:=aeR s h0 ht;omega) h
   ·rw[if_neg hc]at h ⊢;exact Xg f _ m g _ _ _ l (tN h1) h3 hf.2 Ih h
theorem anI {s:List UInt8} {l:List aw} (h:gB s=.good l):s.length≤1048576∧tG s=none∧fX s.length s 0 (1,1) []=.good l:=by
 unfold gB at h;split at h
 ·cases h
 ·cases hc:tG s with
  | none=>rw[hc]at h;exact⟨ae,rfl,h⟩
  | some u=>rw[hc]at h;cases h
theorem Xh (B:Int):∀ (f:Nat) (s:List UInt8) (sk:Nat) (p:Int×Int) (acc l:List aw),fX f s sk p acc=.good l→s.length≤f→1≤p.1→p.1+s.length≤B→(∀ t∈acc,1≤t.line∧t.line≤B) →
  (∀ t∈l,1≤t.line∧t.line≤B)∧l.length≤acc.length+s.length+1
 | 0,s,sk,p,acc,l,h,hf,h1,h2,h3=>by
  have:s=[]:=pS.1 ae;subst this;rw[tK]at h;cases h
  refine⟨fun t ht=>?_,aB⟩;rcases uG.1 ht with ht|ht
  ·exact h3 t ht
  ·rw[oY]at ht;subst ht;simp only[qb];simp at h2;omega
 | f+1,s,sk,p,acc,l,h,hf,h1,h2,h3=>by
  by_cases h0:s=[]
  ·subst h0;rw[tK]at h;cases h
   refine⟨fun t ht=>?_,aB⟩;rcases uG.1 ht with ht|ht
   ·exact h3 t ht
   ·rw[oY]at ht;subst ht;simp only[qb];simp at h2;omega
  ·have hw:=(pd s).2.2 h0;have hw1:=(pd s).1;have gA:1≤(bW p (ay s).1).1:=(by unfold bW;split<;>simp only<;>omega);have wj:(bW p (ay s).1).1+(s.drop (ay s).2).length≤B:=by
    rw[e7];unfold bW;split<;>simp only<;>omega
   rw[F3 h0]at h;split at h
   ·cases ht:gG s with
    | bad e=>rw[ht]at h;cases h
    | good k t n=>
     rw[ht]at h;obtain⟨r1,r2⟩:=Xh B f _ _ _ _ l h (tN hf) gA wj (fun t ht=>by
      rcases uG.1 ht with ht|ht
      ·exact h3 t ht
      ·rw[oY]at ht;subst ht;simp only;omega)
     refine⟨r1,?_⟩;rw[ey,e7,LI]at r2;omega
   ·obtain⟨r1,r2⟩:=Xh B f _ _ _ _ l h (tN hf) gA wj h3;refine⟨r1,?_⟩;rw[e7]at r2;omega
theorem QT {s:List UInt8} {l:List aw} (h:gB s=.good l):s.length≤1048576∧l.length≤s.length+1∧0 < l.length∧∀ t∈l,1≤t.line∧t.line≤1048577:=by
 obtain⟨a1,a2,a3⟩:=anI h;obtain⟨r1,r2⟩:=Xh 1048577 _ _ _ _ _ _ a3 af ah (by show(1:Int)+_≤_;omega) (fun t ht=>by cases ht);obtain⟨T,e,_⟩:=Xg s.length s [] _ 0 (1,1) [] l af af ((anG s).1 a2) (bV _) a3;refine⟨a1,by simpa using r2,by rw[e];simp,r1⟩
theorem Xi:∀ (f:Nat) (s:List UInt8) (sk:Nat) (p:Int×Int) (acc:List aw) (v:Value),fX f s sk p acc=.bad v→∃ T d,v=.iface T d
 | 0,s,sk,p,acc,v,h=>by simp[fX]at h
 | f+1,s,sk,p,acc,v,h=>by
  by_cases h0:s=[]
  ·subst h0;rw[tK]at h;cases h
  ·rw[F3 h0]at h;split at h
   ·cases ht:gG s with
    | bad e=>rw[ht]at h;cases h;exact⟨_,_,rfl⟩
    | good k t n=>rw[ht]at h;exact Xi f _ _ _ _ v h
   ·exact Xi f _ _ _ _ v h
theorem adV {s:List UInt8} {v:Value} (h:gB s=.bad v):∃ T d,v=.iface T d:=by
 unfold gB at h;split at h
 ·cases h;exact⟨_,_,rfl⟩
 ·cases hc:tG s with
  | none=>rw[hc]at h;exact Xi _ _ _ _ _ v h
  | some u=>rw[hc]at h;cases h;exact⟨_,_,rfl⟩
inductive eN:List UInt8→Int×Int→Nat→Int×Int→Prop where
 | zero (s:List UInt8) (p:Int×Int):eN s p 0 p
 | step (s:List UInt8) (p:Int×Int) (n:Nat) (q:Int×Int) (hne:s≠[]) (h:eN (s.drop (ay s).2) (bW p (ay s).1) n q):eN s p ((ay s).2+n) q
theorem eN.trans {s:List UInt8} {p q r:Int×Int} {n m:Nat} (h:eN s p n q) (h2:eN (s.drop n) q m r):eN s p (n+m) r:=by
 induction h with
 | zero s p=>rw[kF];exact h2
 | step s p n q hne h ih=>
  rw[kE];refine .step s p _ _ hne (ih ?_)
  rwa [lG]
def pJ:Nat→List UInt8→Int×Int→List (Int×Int)
 | 0,_,p=>[p]
 | f+1,s,p=>if s=[] then [p] else List.replicate (ay s).2 p++pJ f (s.drop (ay s).2) (bW p (ay s).1)
theorem aaC (f:Nat) (p:Int×Int):pJ f [] p=[p]:=by cases f<;>simp[pJ]
theorem TH {f:Nat} {s:List UInt8} {p:Int×Int} (hne:s≠[]):pJ (f+1) s p=List.replicate (ay s).2 p++pJ f (s.drop (ay s).2) (bW p (ay s).1):=by
 rw[pJ,if_neg hne]
theorem aaE:∀ (f:Nat) (s:List UInt8) (p:Int×Int),s.length≤f→(pJ f s p).length=s.length+1
 | 0,s,p,h=>by
  have:s=[]:=pS.1 ae;subst this;rfl
 | f+1,s,p,h=>by
  by_cases h0:s=[]
  ·subst h0;rw[aaC];rfl
  ·rw[TH h0,ey,rQ,aaE f _ _ (tN h),e7];have:=(pd s).2.2 h0;omega
theorem eN.place {s:List UInt8} {p q:Int×Int} {n:Nat} (h:eN s p n q):∀ f,s.length≤f→(pJ f s p)[n]? = some q:=by
 induction h with
 | zero s p=>
  intro f hf;by_cases h0:s=[]
  ·subst h0;rw[aaC];rfl
  ·cases f with
   | zero=>rfl
   | succ f=>
    rw[TH h0];have:=(pd s).1;rw[Bp (by rw[rQ];omega),List.getElem?_replicate,if_pos ae]
 | step s p n q hne h ih=>
  intro f hf;cases f with
  | zero=>exact absurd (pS.1 ae) hne
  | succ f=>
   rw[TH hne,LG (by rw[rQ];omega),rQ,Nat.add_sub_cancel_left];exact ih f (tN hf)
theorem eN.jump {s:List UInt8} {p q:Int×Int} {n:Nat} (h:eN s p n q):∀ (f g:Nat) (acc:List aw),s.length≤f→(s.drop n).length≤g→fX f s n p acc=fX g (s.drop n) 0 q acc:=by
 induction h with
 | zero s p=>intro f g acc hf hg;exact MW f g _ _ _ _ hf hg
 | step s p n q hne h ih=>
  intro f g acc hf hg;have hw:=(pd s).1;cases f with
  | zero=>exact absurd (pS.1 ae) hne
  | succ f=>
   rw[Rp hne (by rintro⟨h1,_⟩;omega),Nat.add_sub_cancel_left,ih f g acc (tN hf) (by rwa [lG]),lG]
theorem aaH:∀ (f:Nat) (s:List UInt8) (p:Int×Int) (n:Nat) (c:UInt8),s.length≤f→1≤n→s[n - 1]? = some c→c.toNat < 128→∃ q,eN s p n q
 | 0,s,p,n,c,hf,hn,hc,hlo=>by
  have:s=[]:=pS.1 ae;subst this;simp at hc
 | f+1,s,p,n,c,hf,hn,hc,hlo=>by
  have hne:s≠[]:=(by intro h;subst h;simp at hc);have hlt:n - 1 < s.length:=(zt.1 hc).1;have hw:=pd s;by_cases hr:(ay s).1 < 128
  ·obtain⟨a,t,rfl⟩:∃ a t,s=a::t:=by cases s with
    | nil=>exact absurd rfl hne
    | cons a t=>exact⟨a,t,rfl⟩
   obtain⟨he,h1⟩:=Jy a t hr;have e2:(ay (a::t)).2=1:=(by rw[he]);by_cases h:n=1
   ·subst h;have:=eN.step (a::t) p 0 _ hne (.zero _ _);rw[e2]at this;exact⟨_,this⟩
   ·obtain⟨q,hq⟩:=aaH f ((a::t).drop (ay (a::t)).2) (bW p (ay (a::t)).1) (n - 1) c (tN hf) ae (by
     rw[e2,zy,show 1+(n - 1 - 1)=n - 1 by omega];exact hc) hlo
    have:=eN.step (a::t) p _ _ hne hq;rw[e2,show 1+(n - 1)=n by omega]at this;exact⟨q,this⟩
  ·have hc2:=aeS s ae hne;have hge:(ay s).2 < n:=by
    rcases lI (ay s).2 n with h|h
    ·exact h
    ·exfalso;have hm:c∈s.take (ay s).2:=by
      apply List.mem_of_getElem? (i:=n - 1);rw[List.getElem?_take,if_pos ae];exact hc
     have:=hc2 c hm;omega
   obtain⟨q,hq⟩:=aaH f (s.drop (ay s).2) (bW p (ay s).1) (n - (ay s).2) c (tN hf) ae (by
    rw[zy,show(ay s).2+(n - (ay s).2 - 1)=n - 1 by omega];exact hc) hlo
   have:=eN.step s p _ _ hne hq;rw[show(ay s).2+(n - (ay s).2)=n by omega]at this;exact⟨q,this⟩
theorem Hn (q:Nat→Bool) (hq:∀ r,q r=true→r < 128) (c:UInt8) (t:List UInt8):q (ay (c::t)).1=q c.toNat:=by
 by_cases h:(ay (c::t)).1 < 128
 ·rw[(Jy c t h).1]
 ·have h2:¬ c.toNat < 128:=fun h3=>h (by rw[Jv c t h3];exact h3)
  have e1:q (ay (c::t)).1=false:=(by rw[rS];exact fun h3=>h (hq _ h3));have e2:q c.toNat=false:=(by rw[rS];exact fun h3=>h2 (hq _ h3));rw[e1,e2]
theorem aaI {r:Nat} (h:iR r=true):r < 128:=by
 unfold iR at h;simp only[nJ,dZ]at h;omega
theorem aio {r:Nat} (h:oK r=true):r < 128:=by
 unfold oK at h;simp only[nJ,dZ]at h;omega
theorem ME (c:UInt8) (t:List UInt8):gG (c::t) =
  if js c.toNat=true then .good 1 ((c::t).take (l9 (c::t))) (l9 (c::t))
  else if (eZ c.toNat || jI c.toNat (c::t))=true then (if fg (c::t)=0 then .bad 8 else .good 2 ((c::t).take (fg (c::t))) (fg (c::t)))
  else if c=34 then rz (c::t)
  else if oK c.toNat=true then .good 4 [c] 1
  else if jv (c::t)=true then .good 4 ((c::t).take 3) 3 else .bad 7:=by
 have e1:=Hn js (fun r h=>Rj h) c t;have e2:=Hn eZ (fun r h=>Ge h) c t;have e3:=Hn oK (fun r h=>aio h) c t;have e4:jI (ay (c::t)).1 (c::t)=jI c.toNat (c::t):=by
  have:=Hn (fun r=>r == 43 || r == 45) (fun r h=>by simp only[nJ,dZ]at h;omega) c t;unfold jI;have h2:((ay (c::t)).1 == 43 || (ay (c::t)).1 == 45)=(c.toNat == 43 || c.toNat == 45):=this;rw[h2]
 have e5:((ay (c::t)).1=34)=(c=34):=by
  have this:((ay (c::t)).1 == 34)=(c.toNat == 34):=Hn (fun r=>r == 34) (fun r h=>by simp only[dZ]at h;omega) c t;apply propext;constructor
  ·intro h;rw[h]at this;exact UInt8.toNat.inj (by have h2:=this.symm;rw[beq_self_eq_true,dZ]at h2;exact h2)
  ·intro h;subst h;have h2:(UInt8.toNat 34 == 34)=true:=rfl;rw[h2,dZ]at this;exact this
 unfold gG;simp only[e1,e2,e3,e4,e5];rfl
theorem aaJ:∀ (l:List UInt8) (b:Bool) (i k:Nat),eQ b i l=some k→i≤k∧l[k - i]? = some 34
 | [],b,i,k,h=>by rw[Ce]at h;cases h
 | c::t,true,i,k,h=>by
  obtain⟨h1,h2⟩:=aaJ t false (i+1) k h;refine⟨ae,?_⟩;rw[show k - i=(k - (i+1))+1 by omega];exact h2
 | c::t,false,i,k,h=>by
  have h':(if c=92 then eQ true (i+1) t else if c=34 then some i else eQ false (i+1) t)=some k:=h;have aux:∀ b,eQ b (i+1) t=some k→i≤k∧(c::t)[k - i]? = some 34:=fun b h=>by
   obtain⟨h1,h2⟩:=aaJ t b (i+1) k h;refine⟨ae,?_⟩;rw[show k - i=(k - (i+1))+1 by omega];exact h2
  split at h'
  ·exact aux _ h'
  ·split at h'
   ·rename_i h3
    cases h'
    rw[Nat.sub_self];exact⟨af,by rw[h3];rfl⟩
   ·exact aux _ h'
theorem TE:∀ (l:List UInt8) (b:Bool) (d i:Nat),eQ b (d+i) l=(eQ b i l).map (d + ·)
 | [],b,d,i=>by rw[Ce,Ce];rfl
 | c::t,true,d,i=>TE t false d (i+1)
 | c::t,false,d,i=>by
  show(if c=92 then eQ true (d+i+1) t else if c=34 then some (d+i) else eQ false (d+i+1) t)=(if c=92 then eQ true (i+1) t else if c=34 then some i else eQ false (i+1) t).map (d + ·);split
  ·exact TE t true d (i+1)
  ·split
   ·rfl
   ·exact TE t false d (i+1)
def AP (s:List UInt8) (n:Nat):Prop:=1≤n∧∃ c,s[n - 1]? = some c∧c.toNat < 128
theorem aaK {s:List UInt8} {n:Nat} (h:tw (s.drop n)≠[]):AP s (n+(tw (s.drop n)).length):=by
 have bm:0 < (tw (s.drop n)).length:=qs.2 h;refine⟨ae,?_⟩;have hm:(tw (s.drop n))[(tw (s.drop n)).length - 1]∈tw (s.drop n):=gU _;have hd:fq (tw (s.drop n))[(tw (s.drop n)).length - 1]=true:=by
  unfold tw at hm ⊢;exact List.all_eq_true.1 (List.all_takeWhile ..) _ hm
 refine⟨(tw (s.drop n))[(tw (s.drop n)).length - 1],?_,Ge (show eZ _=true from hd)⟩;have hpre:tw (s.drop n) <+: s.drop n:=(by unfold tw;exact List.takeWhile_prefix _);rw[show n+(tw (s.drop n)).length - 1=n+((tw (s.drop n)).length - 1)by omega,← zy];obtain⟨r,hr⟩:=hpre;have h3:(s.drop n)[(tw (s.drop n)).length - 1]? = (tw (s.drop n)++r)[(tw (s.drop n)).length - 1]?:=(by rw[hr]);rw[h3,Bp ae,kC ae]
theorem aaL {s:List UInt8} {n:Nat} (h:AP s n):kM s n=0∨AP s (kM s n):=by
 unfold kM;split
 ·split
  ·exact .inl rfl
  ·exact .inr h
 ·exact .inr h
theorem aaM {s:List UInt8} {n:Nat} (h:AP s n):kN s n=0∨AP s (kN s n):=by
 unfold kN;split
 ·split
  ·split
   ·exact .inl rfl
   ·rename_i h2
    exact aaL (aaK h2)
  ·exact aaL h
 ·exact aaL h
theorem atb {s:List UInt8} {n:Nat} (h:AP s n):ni s n=0∨AP s (ni s n):=by
 unfold ni;split
 ·split
  ·split
   ·exact .inl rfl
   ·rename_i h2
    have:=aaK h2;rw[kE]at this;exact aaM this
  ·exact aaM h
 ·exact aaM h
theorem YF (c:UInt8) (t:List UInt8) (h:(eZ c.toNat || jI c.toNat (c::t))=true):tw ((c::t).drop (dA (c::t)))≠[]:=by
 show tw ((c::t).drop (if eW c=true then 1 else 0))≠[];have uX:∀ (d:UInt8) (u:List UInt8),eZ d.toNat=true→tw (d::u)≠[]:=fun d u hd=>by
  rw[sx (show fq d=true from hd)];exact List.cons_ne_nil _ _
 cases hs:eW c
 ·rw[if_neg aB];rw[nJ]at h;rcases h with h|h
  ·exact uX c t h
  ·exfalso;unfold jI at h;rw[uF,nJ,dZ,dZ]at h;unfold eW at hs;rw[Bt,gT,gT]at hs;rcases h.1 with h1|h1
   ·exact hs.1 (UInt8.toNat.inj h1)
   ·exact hs.2 (UInt8.toNat.inj h1)
 ·rw[if_pos rfl];have xK:eZ c.toNat=false:=by
   unfold eW at hs;rw[nJ,dZ,dZ]at hs;rcases hs with rfl|rfl<;>rfl
  rw[xK,Bool.false_or]at h;unfold jI at h;rw[uF]at h;rcases t with _|⟨d,u⟩
  ·exact absurd h.2 aB
  ·exact uX d u h.2
theorem atc (c:UInt8) (t:List UInt8) (h:(eZ c.toNat || jI c.toNat (c::t))=true):fg (c::t)=0∨AP (c::t) (fg (c::t)):=
 atb (aaK (YF c t h))
theorem atd (c:UInt8) (t:List UInt8) {k:Int} {x:List UInt8} {n:Nat} (h:gG (c::t)=.good k x n):AP (c::t) n:=by
 rw[ME]at h;split at h
 ·rename_i h1
  cases h
  have h2:jt c=true:=(by unfold jt;rw[h1];rfl);have bm:0 < l9 (c::t):=(by unfold l9;rw[sY,h2];simp);refine⟨bm,?_⟩;have hm:((c::t).takeWhile jt)[l9 (c::t) - 1]' PX∈(c::t).takeWhile jt:=gU _;have hd:=List.all_eq_true.1 (List.all_takeWhile (p:=jt) (l:=c::t)) _ hm;refine⟨((c::t).takeWhile jt)[l9 (c::t) - 1]' PX,?_,?_⟩
  ·obtain⟨r,hr⟩:=List.takeWhile_prefix jt (l:=c::t);have:(c::t)[l9 (c::t) - 1]? = ((c::t).takeWhile jt++r)[l9 (c::t) - 1]?:=by rw[hr]
   rw[this,Bp PX,kC PX]
  ·unfold jt at hd;rw[nJ]at hd;rcases hd with hd|hd
   ·exact Rj hd
   ·exact Ge hd
 ·split at h
  ·rename_i h2
   split at h
   ·cases h
   ·rename_i h3
    cases h
    rcases atc c t h2 with h4|h4
    ·exact absurd h4 h3
    ·exact h4
  ·split at h
   ·unfold rz at h;split at h
    ·cases h
    ·rename_i i hi
     split at h
     ·exact Bb
     ·cases h
      obtain⟨a,b⟩:=aaJ _ _ _ _ hi;refine⟨ae,34,?_,ah⟩;rw[zy]at b;rw[show i+1 - 1=1+(i - 1)by omega];exact b
   ·split at h
    ·rename_i h4
     cases h
     exact⟨af,c,rfl,aio h4⟩
    ·split at h
     ·rename_i h5
      cases h
      refine⟨ah,?_⟩;unfold jv at h5;have hl:=Xe (s:=c::t) h5;simp only[nJ,dZ]at h5;have aux:∀ a b d:UInt8,(c::t).take 3=[a,b,d]→(c::t)[2]? = some d:=fun a b d e=>by
       have:=jA (fun l=>l[2]?) e;simp only[List.getElem?_take]at this;rw[if_pos ah]at this;exact this
      rcases h5 with ((h5|h5)|h5)|h5
      all_goals exact⟨_,aux _ _ _ h5,ah⟩
     ·cases h
structure nV (s:List UInt8) (V:qG) (i:Nat) (acc:List aw) (q:Int×Int):Prop where
 hk:i≤s.length
 hb:eN s (1,1) i q
 hv:V=fX (s.length - i) (s.drop i) 0 q acc
theorem nV.place {s:List UInt8} {V:qG} {i:Nat} {acc:List aw} {q:Int×Int} (h:nV s V i acc q):(pJ s.length s (1,1))[i]? = some q:=h.hb.place _ af
theorem nV.blank {s:List UInt8} {V:qG} {i:Nat} {acc:List aw} {q:Int×Int} (h:nV s V i acc q) (hlt:i < s.length) (hb:iR s[i].toNat=true):∃ q',nV s V (i+1) acc q':=by
 have hd:=jq hlt;obtain⟨_,h2,h3⟩:=h;have e:=Jv s[i] (s.drop (i+1)) (aaI hb);refine⟨bW q (ay (s.drop i)).1,hlt,?_,?_⟩
 ·have:=eN.step (s.drop i) q 0 _ PV (.zero _ _);rw[hd,e,← hd]at this;have h4:=h2.trans this;rw[hd,e];exact h4
 ·rw[h3,show s.length - i=(s.length - (i+1))+1 by omega,Rp PV (by rw[hd,e];rintro⟨_,h5⟩;rw[hb]at h5;cases h5),hd,e];rfl
theorem nV.bad {s:List UInt8} {V:qG} {i:Nat} {acc:List aw} {q:Int×Int} (h:nV s V i acc q) (hlt:i < s.length) (hb:iR s[i].toNat=false) {e:Nat} (ht:gG (s.drop i)=.bad e):V=.bad (eH (e:Nat) q.1 q.2):=by
 have hd:=jq hlt;rw[h.hv,show s.length - i=(s.length - (i+1))+1 by omega,WU PV rfl (by rw[hd,Hn iR (fun r h=>aaI h)];exact hb),ht]
theorem nV.good {s:List UInt8} {V:qG} {i:Nat} {acc:List aw} {q:Int×Int} (h:nV s V i acc q) (hlt:i < s.length) (hb:iR s[i].toNat=false) {k:Int} {t:List UInt8} {n:Nat} (ht:gG (s.drop i)=.good k t n):1≤n∧∃ q',nV s V (i+n) (acc++[⟨k,t,q.1,q.2⟩]) q':=by
 have hd:=jq hlt;have hne:s.drop i≠[]:=PV;have hl:AP (s.drop i) n:=by
  rw[hd]at ht ⊢;exact atd _ _ ht
 obtain⟨h1,c,hc,hc2⟩:=hl;obtain⟨q',hq⟩:=aaH _ (s.drop i) q n c af h1 hc hc2;refine qW (aeR _ hne ht) ?_;intro hn;refine⟨h1,q',ae,h.hb.trans hq,?_⟩;have h4:=hq.jump (s.length - i) (s.length - (i+n)) (acc++[⟨k,t,q.1,q.2⟩]) (by rw[e7];exact af) (by rw[e7,e7];omega);rw[lG]at h4;rw[← h4,h.hv,show s.length - i=(s.length - (i+1))+1 by omega,WU hne rfl (by rw[hd,Hn iR (fun r h=>aaI h)];exact hb),ht];simp only;rw[Rp hne (by rintro⟨h5,_⟩;omega)]
theorem nV.fin {s:List UInt8} {V:qG} {i:Nat} {acc:List aw} {q:Int×Int} (h:nV s V i acc q) (hlt:i=s.length):V=.good (acc++[qb q]):=by
 rw[h.hv,hlt,qZ,tK]
end Go.Proofs.YtfflljgnpfldfaaGreatDoor
