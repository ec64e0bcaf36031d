/-
  Plain: the quoted text's end, by bytes and by runes; names.
-/
import Derived.Test.YtfflljgnpfldfaaGreatDoorBaseD
import Derived.Lib.TrimUEq
import Derived.Lib.Small
set_option linter.all false
set_option maxHeartbeats 128000000
namespace Go.Proofs.YtfflljgnpfldfaaGreatDoor
def ay (l:List UInt8):Nat×Nat:=Lib.decodeN l.length (l.getD 0 0).toNat (l.getD 1 0).toNat (l.getD 2 0).toNat (l.getD 3 0).toNat
theorem Ba (s:List UInt8) (i:Nat):Utf8.decode ⟨s.toArray⟩ i=ay (s.drop i):=by
 rw[Lib.decode_N];unfold ay;simp only[Iv,zy,e7,q7]
theorem at5 (n b0 b1 b2 b3:Nat):1≤(Lib.decodeN n b0 b1 b2 b3).2∧(Lib.decodeN n b0 b1 b2 b3).2≤4∧(1≤n→(Lib.decodeN n b0 b1 b2 b3).2≤n):=by
 unfold Lib.decodeN;split
 ·exact⟨aB,aB,fun h=>h⟩
 split
 ·exact UF
 split
 ·exact UF
 split
 ·exact UF
 ·exact⟨aB,aB,fun h=>h⟩
theorem WM (n b0 b1 b2 b3:Nat):∃ c k,Lib.decodeN n b0 b1 b2 b3=(c,k)∧((k=1∧c < 128)∨(k=2∧128≤c∧c≤2047)∨(k=3∧2048≤c∧c≤65535∧(c < 55296∨57344≤c))∨(k=4∧65536≤c∧c≤1114111)∨(c=65533∧k=1)):=by
 refine⟨(Lib.decodeN n b0 b1 b2 b3).1,(Lib.decodeN n b0 b1 b2 b3).2,rfl,?_⟩;unfold Lib.decodeN;split
 ·left;exact⟨rfl,De⟩
 split
 ·split
  ·right;left;exact⟨rfl,De,De⟩
  ·exact Pr
 split
 ·split
  ·right;right;left;exact⟨rfl,De,De,De⟩
  ·exact Pr
 split
 ·split
  ·right;right;right;left;exact⟨rfl,De,De⟩
  ·exact Pr
 ·exact Pr
theorem at6 (n b0 b1 b2 b3:Nat) (h:¬ ((Lib.decodeN n b0 b1 b2 b3).1=65533∧(Lib.decodeN n b0 b1 b2 b3).2=1)) :
  Lib.runeLen ((Lib.decodeN n b0 b1 b2 b3).1:Int)=((Lib.decodeN n b0 b1 b2 b3).2:Int):=by
 obtain⟨c,k,e,hc⟩:=WM n b0 b1 b2 b3;rw[e]at h ⊢;simp only at h ⊢;unfold Lib.runeLen;rcases hc with ⟨rfl,h1⟩|⟨rfl,h1,h2⟩|⟨rfl,h1,h2,h3⟩|⟨rfl,h1,h2⟩|⟨rfl,rfl⟩
 ·rw[if_neg ae,if_pos ae];rfl
 ·rw[if_neg ae,if_neg ae,if_pos ae];rfl
 ·rw[if_neg ae,if_neg ae,if_neg ae,if_neg ae,if_pos ae];rfl
 ·rw[if_neg ae,if_neg ae,if_neg ae,if_neg ae,if_neg ae,if_pos ae];rfl
 ·exact absurd ⟨rfl,rfl⟩ h
theorem adB (n b0 b1 b2 b3:Nat) (h0:b0 < 256) (h1:b1 < 256) (h2:b2 < 256) (h:(Lib.decodeN n b0 b1 b2 b3).1=65533) :
  (Lib.decodeN n b0 b1 b2 b3).2=1∧¬ (3≤n∧b0=239∧b1=191∧b2=189)∨(Lib.decodeN n b0 b1 b2 b3).2=3∧3≤n∧b0=239∧b1=191∧b2=189:=by
 revert h;unfold Lib.decodeN;split
 ·exact wU
 split
 ·split
  ·exact wU
  ·exact Pm
 split
 ·split
  ·intro h;simp only at h;right;exact⟨rfl,ae⟩
  ·rename_i h5 h6;exact Pm
 split
 ·split
  ·exact wU
  ·exact Pm
 ·rename_i h5 h6 h7;exact Pm
theorem aiv (n b0 b1 b2 b3:Nat) (hn:b0 < 128∨(Lib.decodeN n b0 b1 b2 b3).1 < 128):Lib.decodeN n b0 b1 b2 b3=(b0,1)∧b0 < 128:=by
 by_cases h:b0 < 128
 ·unfold Lib.decodeN;rw[if_pos h];exact⟨rfl,h⟩
 ·exfalso;rcases hn with h2|h2
  ·exact h h2
  revert h2;unfold Lib.decodeN;rw[if_neg h];split
  ·split
   ·exact wU
   ·exact wU
  split
  ·split
   ·exact wU
   ·exact wU
  split
  ·split
   ·exact wU
   ·exact wU
  ·exact wU
theorem at7 (n b0 b1 b2 b3:Nat):(Lib.decodeN n b0 b1 b2 b3).1≤1114111:=by
 unfold Lib.decodeN;split
 ·simp only;omega
 split
 ·split<;>simp only<;>omega
 split
 ·split<;>simp only<;>omega
 split
 ·split<;>simp only<;>omega
 ·simp only;omega
theorem pd (l:List UInt8):1≤(ay l).2∧(ay l).2≤4∧(l≠[]→(ay l).2≤l.length):=by
 obtain⟨h1,h2,h3⟩:=at5 l.length (l.getD 0 0).toNat (l.getD 1 0).toNat (l.getD 2 0).toNat (l.getD 3 0).toNat;exact⟨h1,h2,fun h=>h3 (qs.2 h)⟩
theorem adk (l:List UInt8):(ay l).1≤1114111:=at7 _ _ _ _ _
theorem Jv (c:UInt8) (t:List UInt8) (h:c.toNat < 128):ay (c::t)=(c.toNat,1):=(aiv _ _ _ _ _ (.inl h)).1
theorem Jy (c:UInt8) (t:List UInt8) (h:(ay (c::t)).1 < 128):ay (c::t)=(c.toNat,1)∧c.toNat < 128:=aiv _ _ _ _ _ (.inr h)
def gF (r n:Nat):Bool:=r == 65533 && n == 1
def mj (r:Nat):Bool:=decide (r < 32) || r == 127
def iR (r:Nat):Bool:=r == 32 || r == 9 || r == 10 || r == 13
def iZ (r n:Nat):Bool:=gF r n || (mj r && !iR r)
theorem akd (l:List UInt8) (h:gF (ay l).1 (ay l).2=false):Lib.runeLen ((ay l).1:Int)=((ay l).2:Int):=
 at6 _ _ _ _ _ (fun h2=>by
  have e1:(ay l).1=65533:=h2.1;have e2:(ay l).2=1:=h2.2;unfold gF at h;rw[e1,e2]at h;exact absurd h ah)
structure ig where
 line:Int
 ak:Int
 rune:Nat
 wide:Nat
def bW (p:Int×Int) (r:Nat):Int×Int:=if r=10 then (p.1+1,1) else (p.1,p.2+1)
def dc:Nat→List UInt8→Int×Int→List ig
 | 0,_,_=>[]
 | f+1,l,p=>if l=[] then [] else ⟨p.1,p.2,(ay l).1,(ay l).2⟩::dc f (l.drop (ay l).2) (bW p (ay l).1)
def aK (l:List UInt8):List ig:=dc l.length l (1,1)
def Eb:Nat→List UInt8→Int×Int→Int×Int
 | 0,_,p=>p
 | f+1,l,p=>if l=[] then p else Eb f (l.drop (ay l).2) (bW p (ay l).1)
theorem ah3 (f:Nat) (p:Int×Int):dc f [] p=[]:=by cases f<;>simp[dc]
theorem adv (f:Nat) (l:List UInt8) (p:Int×Int):(dc f l p).length≤f:=by
 induction f generalizing l p with
 | zero=>simp[dc]
 | succ f ih=>
  unfold dc;split
  ·simp
  ·rw[dz];have:=ih (l.drop (ay l).2) (bW p (ay l).1);omega
theorem tN {l:List UInt8} {f:Nat} (h:l.length≤f+1):(l.drop (ay l).2).length≤f:=by
 rw[e7];have:=(pd l).1;omega
def fJ (xs:List ig) (k:Nat):Nat:=((xs.take k).map ig.wide).sum
theorem VK (xs:List ig):fJ xs 0=0:=by simp[fJ]
theorem VL (xs:List ig) (k:Nat) (hk:k < xs.length):fJ xs (k+1)=fJ xs k+xs[k].wide:=by
 unfold fJ;rw[Bo hk,vO,List.sum_append];simp
theorem aua (f:Nat) (l:List UInt8) (p:Int×Int) (hl:l.length≤f) (k:Nat) (hk:k < (dc f l p).length) :
  fJ (dc f l p) k < l.length∧(dc f l p)[k].rune=(ay (l.drop (fJ (dc f l p) k))).1∧(dc f l p)[k].wide=(ay (l.drop (fJ (dc f l p) k))).2:=by
 induction f generalizing l p k with
 | zero=>simp[dc]at hk
 | succ f ih=>
  by_cases h0:l=[]
  ·subst h0;simp[dc]at hk
  ·have e:dc (f+1) l p=⟨p.1,p.2,(ay l).1,(ay l).2⟩::dc f (l.drop (ay l).2) (bW p (ay l).1):=by
    exact Pc
   have hw:=pd l;have bm:=qs.2 h0;cases k with
   | zero=>
    rw[VK];simp only[e,List.drop_zero,zu,and_self,and_true];exact bm
   | succ k=>
    have hk2:k < (dc f (l.drop (ay l).2) (bW p (ay l).1)).length:=(by rw[e,dz]at hk;omega);have hp:fJ (dc (f+1) l p) (k+1)=(ay l).2+fJ (dc f (l.drop (ay l).2) (bW p (ay l).1)) k:=by
     rw[e];unfold fJ;rw[vM,zH,List.sum_cons]
    obtain⟨i1,i2,i3⟩:=ih (l.drop (ay l).2) (bW p (ay l).1) (tN hl) k hk2;rw[e7]at i1;rw[lG]at i2 i3;rw[hp];simp only[e,zv];exact⟨ae,i2,i3⟩
theorem adt (s:List UInt8) (k:Nat) (hk:k < (aK s).length) :
  fJ (aK s) k < s.length∧(aK s)[k].rune=(ay (s.drop (fJ (aK s) k))).1∧(aK s)[k].wide=(ay (s.drop (fJ (aK s) k))).2:=
 aua s.length s (1,1) af k hk
theorem adu (f:Nat) (l:List UInt8) (p:Int×Int) (hl:l.length≤f):fJ (dc f l p) (dc f l p).length=l.length:=by
 induction f generalizing l p with
 | zero=>have:l=[]:=pS.1 ae;subst this;rfl
 | succ f ih=>
  by_cases h0:l=[]
  ·subst h0;simp[dc,fJ]
  ·have e:dc (f+1) l p=⟨p.1,p.2,(ay l).1,(ay l).2⟩::dc f (l.drop (ay l).2) (bW p (ay l).1):=by
    exact Pc
   have hw:=(pd l).2.2 h0;have:=ih (l.drop (ay l).2) (bW p (ay l).1) (tN hl);rw[e,dz];unfold fJ at this ⊢;rw[vM,zH,List.sum_cons,this,e7];show(ay l).2+_=_;omega
theorem adp (f:Nat) (l:List UInt8) (p:Int×Int) (k:Nat) (hk:k < (dc f l p).length) :
  (k=0→(dc f l p)[k].line=p.1∧(dc f l p)[k].ak=p.2) ∧
  (∀ (h:k+1 < (dc f l p).length),((dc f l p)[k+1].line,(dc f l p)[k+1].ak)=bW ((dc f l p)[k].line,(dc f l p)[k].ak) (dc f l p)[k].rune):=by
 induction f generalizing l p k with
 | zero=>simp[dc]at hk
 | succ f ih=>
  by_cases h0:l=[]
  ·subst h0;simp[dc]at hk
  ·have e:dc (f+1) l p=⟨p.1,p.2,(ay l).1,(ay l).2⟩::dc f (l.drop (ay l).2) (bW p (ay l).1):=by
    exact Pc
   simp only[e]at hk ⊢;cases k with
   | zero=>
    refine⟨fun _=>⟨rfl,rfl⟩,fun h=>?_⟩;have h2:0 < (dc f (l.drop (ay l).2) (bW p (ay l).1)).length:=vK;obtain⟨a,b⟩:=(ih (l.drop (ay l).2) (bW p (ay l).1) 0 h2).1 rfl;simp only[zv,zu];rw[a,b]
   | succ k=>
    have hk2:k < (dc f (l.drop (ay l).2) (bW p (ay l).1)).length:=(by rw[dz]at hk;omega);refine⟨fun h=>ae,fun h=>?_⟩;have h2:k+1 < (dc f (l.drop (ay l).2) (bW p (ay l).1)).length:=(by rw[dz]at h;omega);simp only[zv];exact(ih (l.drop (ay l).2) (bW p (ay l).1) k hk2).2 h2
theorem aub (f:Nat) (l:List UInt8) (p:Int×Int) (k:Nat) (hk:k < (dc f l p).length) (fL:1≤p.1) (o9:1≤p.2) :
  1≤(dc f l p)[k].line∧(dc f l p)[k].line≤p.1+k∧1≤(dc f l p)[k].ak∧(dc f l p)[k].ak≤p.2+k:=by
 induction f generalizing l p k with
 | zero=>simp[dc]at hk
 | succ f ih=>
  by_cases h0:l=[]
  ·subst h0;simp[dc]at hk
  ·have e:dc (f+1) l p=⟨p.1,p.2,(ay l).1,(ay l).2⟩::dc f (l.drop (ay l).2) (bW p (ay l).1):=by
    exact Pc
   simp only[e]at hk ⊢;cases k with
   | zero=>simp only[zu];omega
   | succ k=>
    have hk2:k < (dc f (l.drop (ay l).2) (bW p (ay l).1)).length:=(by rw[dz]at hk;omega);have hn:1≤(bW p (ay l).1).1∧1≤(bW p (ay l).1).2∧(bW p (ay l).1).1≤p.1+1∧(bW p (ay l).1).2≤p.2+1:=by
     unfold bW;split<;>simp only<;>omega
    obtain⟨i1,i2,i3,i4⟩:=ih (l.drop (ay l).2) (bW p (ay l).1) k hk2 hn.1 hn.2.1;simp only[zv];omega
theorem VI (s:List UInt8) (k:Nat) (hk:k < (aK s).length) :
  1≤(aK s)[k].line∧(aK s)[k].line≤1+k∧1≤(aK s)[k].ak∧(aK s)[k].ak≤1+k:=aub _ _ _ k hk ah ah
def tG (s:List UInt8):Option ig:=(aK s).find? (fun u=>iZ u.rune u.wide)
theorem anJ (n b0 b1 b2 b3:Nat) (h:128≤(Lib.decodeN n b0 b1 b2 b3).1) :
  128≤b0∧(2≤(Lib.decodeN n b0 b1 b2 b3).2→128≤b1∧2≤n)∧(3≤(Lib.decodeN n b0 b1 b2 b3).2→128≤b2∧3≤n)∧(4≤(Lib.decodeN n b0 b1 b2 b3).2→128≤b3∧4≤n):=by
 revert h;unfold Lib.decodeN;split
 ·exact wU
 split
 ·split
  ·exact Fb
  ·exact Fb
 split
 ·split
  ·exact Fb
  ·exact Fb
 split
 ·split
  ·exact Fb
  ·exact Fb
 ·exact Fb
theorem aeS (l:List UInt8) (h:128≤(ay l).1) (hl:l≠[]):∀ c∈l.take (ay l).2,128≤c.toNat:=by
 obtain⟨h0,h1,h2,h3⟩:=anJ l.length (l.getD 0 0).toNat (l.getD 1 0).toNat (l.getD 2 0).toNat (l.getD 3 0).toNat h;obtain⟨w1,w2,w3⟩:=pd l;intro c hc;obtain⟨j,hj,rfl⟩:=List.getElem_of_mem hc;rw[uC]at hj;have MX:j < (ay l).2:=ae;have tF:j < l.length:=ae;rw[List.getElem_take];have e:l[j]=l.getD j 0:=(by simp[List.getD,tF]);rw[e];have hj4:j < 4:=ae;rcases j with _|_|_|_|j
 ·exact h0
 ·exact(h1 MX).1
 ·exact(h2 MX).1
 ·exact(h3 MX).1
 ·omega
def eQ:Bool→Nat→List UInt8→Option Nat
 | _,_,[]=>none
 | true,i,_::t=>eQ false (i+1) t
 | false,i,c::t=>if c=92 then eQ true (i+1) t else if c=34 then some i else eQ false (i+1) t
theorem Ce (b:Bool) (i:Nat):eQ b i []=none:=by cases b<;>rfl
theorem Xj (i:Nat):∀ (l m:List UInt8),(∀ c∈l,128≤c.toNat)→eQ false i (l++m)=eQ false (i+l.length) m
 | [],m,_=>rfl
 | c::t,m,h=>by
  have hc:=h c (List.mem_cons_self ..);have h1:c≠92:=(by intro e;rw[e]at hc;revert hc;decide);have h2:c≠34:=(by intro e;rw[e]at hc;revert hc;decide);rw[uD];show(if c=92 then _ else if c=34 then _ else _)=_;rw[if_neg h1,if_neg h2,Xj (i+1) t m (fun x hx=>h x (Dj _ hx)),dz]
  congr 1;omega
theorem anh (b:Bool) (i:Nat) (l:List UInt8) (hl:l≠[]) (h:128≤(ay l).1):eQ b i l=eQ false (i+(ay l).2) (l.drop (ay l).2):=by
 have hc:=aeS l h hl;have hw:=pd l;have hlen:(l.take (ay l).2).length=(ay l).2:=(by rw[uC];have:=hw.2.2 hl;omega);have e:=ID (ay l).2 l;cases b with
 | false=>
  have h2:=Xj i (l.take (ay l).2) (l.drop (ay l).2) hc;rw[e,hlen]at h2;exact h2
 | true=>
  generalize (ay l).2=n at *;cases l with
  | nil=>exact absurd rfl hl
  | cons c t=>
   obtain⟨m,rfl⟩:∃ m,n=m+1:=⟨n - 1,ae⟩
   rw[vM]at hc;have h2:=Xj (i+1) (t.take m) (t.drop m) (fun x hx=>hc x (Dj _ hx));rw[ID]at h2;rw[List.drop_succ_cons];show eQ false (i+1) t=_;rw[h2,uC,show min m t.length=m by have:=hlen;simp only[vM,dz,uC]at this;omega]
   congr 1;omega
theorem JE:∀ (l:List UInt8) (b:Bool) (i k:Nat),eQ b i l=some k→i≤k∧k < i+l.length
 | [],b,i,k,h=>by rw[Ce]at h;cases h
 | c::t,true,i,k,h=>by
  have:=JE t false (i+1) k h;rw[dz];omega
 | c::t,false,i,k,h=>by
  rw[dz];have h':(if c=92 then eQ true (i+1) t else if c=34 then some i else eQ false (i+1) t)=some k:=h;split at h'
  ·have:=JE t true (i+1) k h';omega
  split at h'
  ·cases h';omega
  ·have:=JE t false (i+1) k h';omega
end Go.Proofs.YtfflljgnpfldfaaGreatDoor
