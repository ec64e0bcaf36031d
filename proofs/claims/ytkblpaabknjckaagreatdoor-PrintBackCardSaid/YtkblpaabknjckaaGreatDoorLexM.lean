/-
  Plain: the quoted text's end, by bytes and by runes; names.
-/
import Derived.Test.YtkblpaabknjckaaGreatDoorBaseD
import Derived.Lib.DecodeN
import Derived.Lib.TrimUEq
import Derived.Lib.Small
set_option maxHeartbeats 128000000
set_option linter.unusedVariables false
namespace Go.Proofs.YtkblpaabknjckaaGreatDoor
def decL (l:List UInt8):Nat×Nat:=Lib.decodeN l.length (l.getD 0 0).toNat (l.getD 1 0).toNat (l.getD 2 0).toNat (l.getD 3 0).toNat
theorem dec_drop (s:List UInt8) (i:Nat):Utf8.decode ⟨s.toArray⟩ i=decL (s.drop i):=by
 rw[Lib.decode_N];unfold decL;simp only[List.getD_eq_getElem?_getD,List.getElem?_drop,List.length_drop,Nat.add_zero]
theorem decN_w (n b0 b1 b2 b3:Nat):1≤(Lib.decodeN n b0 b1 b2 b3).2∧(Lib.decodeN n b0 b1 b2 b3).2≤4∧(1≤n→(Lib.decodeN n b0 b1 b2 b3).2≤n):=by
 unfold Lib.decodeN;split
 ·exact⟨by simp,by simp,fun h=>h⟩
 split
 ·rename_i h;split<;>exact⟨by simp,by simp,fun h=>by simp only;omega⟩
 split
 ·rename_i h;split<;>exact⟨by simp,by simp,fun h=>by simp only;omega⟩
 split
 ·rename_i h;split<;>exact⟨by simp,by simp,fun h=>by simp only;omega⟩
 ·exact⟨by simp,by simp,fun h=>h⟩
theorem decN_cases (n b0 b1 b2 b3:Nat):∃ c k,Lib.decodeN n b0 b1 b2 b3=(c,k)∧((k=1∧c < 128)∨(k=2∧128≤c∧c≤2047)∨(k=3∧2048≤c∧c≤65535∧(c < 55296∨57344≤c))∨(k=4∧65536≤c∧c≤1114111)∨(c=65533∧k=1)):=by
 refine⟨(Lib.decodeN n b0 b1 b2 b3).1,(Lib.decodeN n b0 b1 b2 b3).2,rfl,?_⟩;unfold Lib.decodeN;split
 ·left;exact⟨rfl,by dsimp only;omega⟩
 split
 ·split
  ·right;left;exact⟨rfl,by dsimp only;omega,by dsimp only;omega⟩
  ·right;right;right;right;exact⟨rfl,rfl⟩
 split
 ·split
  ·right;right;left;exact⟨rfl,by dsimp only;omega,by dsimp only;omega,by dsimp only;omega⟩
  ·right;right;right;right;exact⟨rfl,rfl⟩
 split
 ·split
  ·right;right;right;left;exact⟨rfl,by dsimp only;omega,by dsimp only;omega⟩
  ·right;right;right;right;exact⟨rfl,rfl⟩
 ·right;right;right;right;exact⟨rfl,rfl⟩
theorem decN_len (n b0 b1 b2 b3:Nat) (h:¬ ((Lib.decodeN n b0 b1 b2 b3).1=65533∧(Lib.decodeN n b0 b1 b2 b3).2=1)) :
  Lib.runeLen ((Lib.decodeN n b0 b1 b2 b3).1:Int)=((Lib.decodeN n b0 b1 b2 b3).2:Int):=by
 obtain⟨c,k,e,hc⟩:=decN_cases n b0 b1 b2 b3;rw[e]at h ⊢;simp only at h ⊢;unfold Lib.runeLen;rcases hc with ⟨rfl,h1⟩|⟨rfl,h1,h2⟩|⟨rfl,h1,h2,h3⟩|⟨rfl,h1,h2⟩|⟨rfl,rfl⟩
 ·rw[if_neg (by omega),if_pos (by omega)];rfl
 ·rw[if_neg (by omega),if_neg (by omega),if_pos (by omega)];rfl
 ·rw[if_neg (by omega),if_neg (by omega),if_neg (by omega),if_neg (by omega),if_pos (by omega)];rfl
 ·rw[if_neg (by omega),if_neg (by omega),if_neg (by omega),if_neg (by omega),if_neg (by omega),if_pos (by omega)];rfl
 ·exact absurd ⟨rfl,rfl⟩ h
theorem decN_ill (n b0 b1 b2 b3:Nat) (h0:b0 < 256) (h1:b1 < 256) (h2:b2 < 256) (h:(Lib.decodeN n b0 b1 b2 b3).1=65533) :
  (Lib.decodeN n b0 b1 b2 b3).2=1∧¬ (3≤n∧b0=239∧b1=191∧b2=189)∨(Lib.decodeN n b0 b1 b2 b3).2=3∧3≤n∧b0=239∧b1=191∧b2=189:=by
 revert h;unfold Lib.decodeN;split
 ·intro h;simp only at h;omega
 split
 ·split
  ·intro h;simp only at h;omega
  ·intro h;left;exact⟨rfl,by omega⟩
 split
 ·split
  ·intro h;simp only at h;right;exact⟨rfl,by omega⟩
  ·rename_i h5 h6;intro h;left;exact⟨rfl,by omega⟩
 split
 ·split
  ·intro h;simp only at h;omega
  ·intro h;left;exact⟨rfl,by omega⟩
 ·rename_i h5 h6 h7;intro h;left;exact⟨rfl,by omega⟩
theorem decN_low (n b0 b1 b2 b3:Nat) (hn:b0 < 128∨(Lib.decodeN n b0 b1 b2 b3).1 < 128):Lib.decodeN n b0 b1 b2 b3=(b0,1)∧b0 < 128:=by
 by_cases h:b0 < 128
 ·unfold Lib.decodeN;rw[if_pos h];exact⟨rfl,h⟩
 ·exfalso;rcases hn with h2|h2
  ·exact h h2
  revert h2;unfold Lib.decodeN;rw[if_neg h];split
  ·split
   ·intro h;simp only at h;omega
   ·intro h;simp only at h;omega
  split
  ·split
   ·intro h;simp only at h;omega
   ·intro h;simp only at h;omega
  split
  ·split
   ·intro h;simp only at h;omega
   ·intro h;simp only at h;omega
  ·intro h;simp only at h;omega
theorem decN_max (n b0 b1 b2 b3:Nat):(Lib.decodeN n b0 b1 b2 b3).1≤1114111:=by
 unfold Lib.decodeN;split
 ·simp only;omega
 split
 ·split<;>simp only<;>omega
 split
 ·split<;>simp only<;>omega
 split
 ·split<;>simp only<;>omega
 ·simp only;omega
theorem dec_w (l:List UInt8):1≤(decL l).2∧(decL l).2≤4∧(l≠[]→(decL l).2≤l.length):=by
 obtain⟨h1,h2,h3⟩:=decN_w l.length (l.getD 0 0).toNat (l.getD 1 0).toNat (l.getD 2 0).toNat (l.getD 3 0).toNat;exact⟨h1,h2,fun h=>h3 (List.length_pos_iff.2 h)⟩
theorem dec_max (l:List UInt8):(decL l).1≤1114111:=decN_max _ _ _ _ _
theorem dec_ascii (c:UInt8) (t:List UInt8) (h:c.toNat < 128):decL (c::t)=(c.toNat,1):=(decN_low _ _ _ _ _ (.inl h)).1
theorem dec_low (c:UInt8) (t:List UInt8) (h:(decL (c::t)).1 < 128):decL (c::t)=(c.toNat,1)∧c.toNat < 128:=decN_low _ _ _ _ _ (.inr h)
def illU (r n:Nat):Bool:=r == 65533 && n == 1
def ctlU (r:Nat):Bool:=decide (r < 32) || r == 127
def blankU (r:Nat):Bool:=r == 32 || r == 9 || r == 10 || r == 13
def badU (r n:Nat):Bool:=illU r n || (ctlU r && !blankU r)
theorem dec_wid (l:List UInt8) (h:illU (decL l).1 (decL l).2=false):Lib.runeLen ((decL l).1:Int)=((decL l).2:Int):=
 decN_len _ _ _ _ _ (fun h2=>by
  have e1:(decL l).1=65533:=h2.1;have e2:(decL l).2=1:=h2.2;unfold illU at h;rw[e1,e2]at h;exact absurd h (by decide))
structure Unt where
 line:Int
 col:Int
 rune:Nat
 wide:Nat
def nextP (p:Int×Int) (r:Nat):Int×Int:=if r=10 then (p.1+1,1) else (p.1,p.2+1)
def unitsF:Nat→List UInt8→Int×Int→List Unt
 | 0,_,_=>[]
 | f+1,l,p=>if l=[] then [] else ⟨p.1,p.2,(decL l).1,(decL l).2⟩::unitsF f (l.drop (decL l).2) (nextP p (decL l).1)
def unitsL (l:List UInt8):List Unt:=unitsF l.length l (1,1)
def endF:Nat→List UInt8→Int×Int→Int×Int
 | 0,_,p=>p
 | f+1,l,p=>if l=[] then p else endF f (l.drop (decL l).2) (nextP p (decL l).1)
theorem unitsF_nil (f:Nat) (p:Int×Int):unitsF f [] p=[]:=by cases f<;>simp[unitsF]
theorem unitsF_len (f:Nat) (l:List UInt8) (p:Int×Int):(unitsF f l p).length≤f:=by
 induction f generalizing l p with
 | zero=>simp[unitsF]
 | succ f ih=>
  unfold unitsF;split
  ·simp
  ·rw[List.length_cons];have:=ih (l.drop (decL l).2) (nextP p (decL l).1);omega
theorem drop_short {l:List UInt8} {f:Nat} (h:l.length≤f+1):(l.drop (decL l).2).length≤f:=by
 rw[List.length_drop];have:=(dec_w l).1;omega
def posU (xs:List Unt) (k:Nat):Nat:=((xs.take k).map Unt.wide).sum
theorem posU_zero (xs:List Unt):posU xs 0=0:=by simp[posU]
theorem posU_succ (xs:List Unt) (k:Nat) (hk:k < xs.length):posU xs (k+1)=posU xs k+xs[k].wide:=by
 unfold posU;rw[List.take_succ_eq_append_getElem hk,List.map_append,List.sum_append];simp
theorem unit_at_f (f:Nat) (l:List UInt8) (p:Int×Int) (hl:l.length≤f) (k:Nat) (hk:k < (unitsF f l p).length) :
  posU (unitsF f l p) k < l.length∧(unitsF f l p)[k].rune=(decL (l.drop (posU (unitsF f l p) k))).1∧(unitsF f l p)[k].wide=(decL (l.drop (posU (unitsF f l p) k))).2:=by
 induction f generalizing l p k with
 | zero=>simp[unitsF]at hk
 | succ f ih=>
  by_cases h0:l=[]
  ·subst h0;simp[unitsF]at hk
  ·have e:unitsF (f+1) l p=⟨p.1,p.2,(decL l).1,(decL l).2⟩::unitsF f (l.drop (decL l).2) (nextP p (decL l).1):=by
    show(if l=[] then [] else _)=_;rw[if_neg h0]
   have hw:=dec_w l;have hpos:=List.length_pos_iff.2 h0;cases k with
   | zero=>
    rw[posU_zero];simp only[e,List.drop_zero,List.getElem_cons_zero,and_self,and_true];exact hpos
   | succ k=>
    have hk2:k < (unitsF f (l.drop (decL l).2) (nextP p (decL l).1)).length:=(by rw[e,List.length_cons]at hk;omega);have hp:posU (unitsF (f+1) l p) (k+1)=(decL l).2+posU (unitsF f (l.drop (decL l).2) (nextP p (decL l).1)) k:=by
     rw[e];unfold posU;rw[List.take_succ_cons,List.map_cons,List.sum_cons]
    obtain⟨i1,i2,i3⟩:=ih (l.drop (decL l).2) (nextP p (decL l).1) (drop_short hl) k hk2;rw[List.length_drop]at i1;rw[List.drop_drop]at i2 i3;rw[hp];simp only[e,List.getElem_cons_succ];exact⟨by omega,i2,i3⟩
theorem unit_at (s:List UInt8) (k:Nat) (hk:k < (unitsL s).length) :
  posU (unitsL s) k < s.length∧(unitsL s)[k].rune=(decL (s.drop (posU (unitsL s) k))).1∧(unitsL s)[k].wide=(decL (s.drop (posU (unitsL s) k))).2:=
 unit_at_f s.length s (1,1) lrf k hk
theorem units_all_f (f:Nat) (l:List UInt8) (p:Int×Int) (hl:l.length≤f):posU (unitsF f l p) (unitsF f l p).length=l.length:=by
 induction f generalizing l p with
 | zero=>have:l=[]:=List.length_eq_zero_iff.1 (by omega);subst this;rfl
 | succ f ih=>
  by_cases h0:l=[]
  ·subst h0;simp[unitsF,posU]
  ·have e:unitsF (f+1) l p=⟨p.1,p.2,(decL l).1,(decL l).2⟩::unitsF f (l.drop (decL l).2) (nextP p (decL l).1):=by
    show(if l=[] then [] else _)=_;rw[if_neg h0]
   have hw:=(dec_w l).2.2 h0;have:=ih (l.drop (decL l).2) (nextP p (decL l).1) (drop_short hl);rw[e,List.length_cons];unfold posU at this ⊢;rw[List.take_succ_cons,List.map_cons,List.sum_cons,this,List.length_drop];show(decL l).2+_=_;omega
theorem unit_lc_f (f:Nat) (l:List UInt8) (p:Int×Int) (k:Nat) (hk:k < (unitsF f l p).length) :
  (k=0→(unitsF f l p)[k].line=p.1∧(unitsF f l p)[k].col=p.2) ∧
  (∀ (h:k+1 < (unitsF f l p).length),((unitsF f l p)[k+1].line,(unitsF f l p)[k+1].col)=nextP ((unitsF f l p)[k].line,(unitsF f l p)[k].col) (unitsF f l p)[k].rune):=by
 induction f generalizing l p k with
 | zero=>simp[unitsF]at hk
 | succ f ih=>
  by_cases h0:l=[]
  ·subst h0;simp[unitsF]at hk
  ·have e:unitsF (f+1) l p=⟨p.1,p.2,(decL l).1,(decL l).2⟩::unitsF f (l.drop (decL l).2) (nextP p (decL l).1):=by
    show(if l=[] then [] else _)=_;rw[if_neg h0]
   simp only[e]at hk ⊢;cases k with
   | zero=>
    refine⟨fun _=>⟨rfl,rfl⟩,fun h=>?_⟩;have h2:0 < (unitsF f (l.drop (decL l).2) (nextP p (decL l).1)).length:=(by simpa using h);obtain⟨a,b⟩:=(ih (l.drop (decL l).2) (nextP p (decL l).1) 0 h2).1 rfl;simp only[List.getElem_cons_succ,List.getElem_cons_zero];rw[a,b]
   | succ k=>
    have hk2:k < (unitsF f (l.drop (decL l).2) (nextP p (decL l).1)).length:=(by rw[List.length_cons]at hk;omega);refine⟨fun h=>by omega,fun h=>?_⟩;have h2:k+1 < (unitsF f (l.drop (decL l).2) (nextP p (decL l).1)).length:=(by rw[List.length_cons]at h;omega);simp only[List.getElem_cons_succ];exact(ih (l.drop (decL l).2) (nextP p (decL l).1) k hk2).2 h2
theorem unit_bd_f (f:Nat) (l:List UInt8) (p:Int×Int) (k:Nat) (hk:k < (unitsF f l p).length) (hp1:1≤p.1) (hp2:1≤p.2) :
  1≤(unitsF f l p)[k].line∧(unitsF f l p)[k].line≤p.1+k∧1≤(unitsF f l p)[k].col∧(unitsF f l p)[k].col≤p.2+k:=by
 induction f generalizing l p k with
 | zero=>simp[unitsF]at hk
 | succ f ih=>
  by_cases h0:l=[]
  ·subst h0;simp[unitsF]at hk
  ·have e:unitsF (f+1) l p=⟨p.1,p.2,(decL l).1,(decL l).2⟩::unitsF f (l.drop (decL l).2) (nextP p (decL l).1):=by
    show(if l=[] then [] else _)=_;rw[if_neg h0]
   simp only[e]at hk ⊢;cases k with
   | zero=>simp only[List.getElem_cons_zero];omega
   | succ k=>
    have hk2:k < (unitsF f (l.drop (decL l).2) (nextP p (decL l).1)).length:=(by rw[List.length_cons]at hk;omega);have hn:1≤(nextP p (decL l).1).1∧1≤(nextP p (decL l).1).2∧(nextP p (decL l).1).1≤p.1+1∧(nextP p (decL l).1).2≤p.2+1:=by
     unfold nextP;split<;>simp only<;>omega
    obtain⟨i1,i2,i3,i4⟩:=ih (l.drop (decL l).2) (nextP p (decL l).1) k hk2 hn.1 hn.2.1;simp only[List.getElem_cons_succ];omega
theorem unit_bd (s:List UInt8) (k:Nat) (hk:k < (unitsL s).length) :
  1≤(unitsL s)[k].line∧(unitsL s)[k].line≤1+k∧1≤(unitsL s)[k].col∧(unitsL s)[k].col≤1+k:=unit_bd_f _ _ _ k hk (by decide) (by decide)
def checkL (s:List UInt8):Option Unt:=(unitsL s).find? (fun u=>badU u.rune u.wide)
theorem decN_conts (n b0 b1 b2 b3:Nat) (h:128≤(Lib.decodeN n b0 b1 b2 b3).1) :
  128≤b0∧(2≤(Lib.decodeN n b0 b1 b2 b3).2→128≤b1∧2≤n)∧(3≤(Lib.decodeN n b0 b1 b2 b3).2→128≤b2∧3≤n)∧(4≤(Lib.decodeN n b0 b1 b2 b3).2→128≤b3∧4≤n):=by
 revert h;unfold Lib.decodeN;split
 ·intro h;simp only at h;omega
 split
 ·split
  ·intro h;dsimp only;omega
  ·intro h;dsimp only;omega
 split
 ·split
  ·intro h;dsimp only;omega
  ·intro h;dsimp only;omega
 split
 ·split
  ·intro h;dsimp only;omega
  ·intro h;dsimp only;omega
 ·intro h;dsimp only;omega
theorem dec_conts (l:List UInt8) (h:128≤(decL l).1) (hl:l≠[]):∀ c∈l.take (decL l).2,128≤c.toNat:=by
 obtain⟨h0,h1,h2,h3⟩:=decN_conts l.length (l.getD 0 0).toNat (l.getD 1 0).toNat (l.getD 2 0).toNat (l.getD 3 0).toNat h;obtain⟨w1,w2,w3⟩:=dec_w l;intro c hc;obtain⟨j,hj,rfl⟩:=List.getElem_of_mem hc;rw[List.length_take]at hj;have hj1:j < (decL l).2:=(by omega);have hj2:j < l.length:=(by omega);rw[List.getElem_take];have e:l[j]=l.getD j 0:=(by simp[List.getD,hj2]);rw[e];have hj4:j < 4:=(by omega);rcases j with _|_|_|_|j
 ·exact h0
 ·exact(h1 hj1).1
 ·exact(h2 hj1).1
 ·exact(h3 hj1).1
 ·omega
def endQ:Bool→Nat→List UInt8→Option Nat
 | _,_,[]=>none
 | true,i,_::t=>endQ false (i+1) t
 | false,i,c::t=>if c=92 then endQ true (i+1) t else if c=34 then some i else endQ false (i+1) t
theorem endQ_nil (b:Bool) (i:Nat):endQ b i []=none:=by cases b<;>rfl
theorem endQ_skip (i:Nat):∀ (l m:List UInt8),(∀ c∈l,128≤c.toNat)→endQ false i (l++m)=endQ false (i+l.length) m
 | [],m,_=>rfl
 | c::t,m,h=>by
  have hc:=h c (List.mem_cons_self ..);have h1:c≠92:=(by intro e;rw[e]at hc;revert hc;decide);have h2:c≠34:=(by intro e;rw[e]at hc;revert hc;decide);rw[List.cons_append];show(if c=92 then _ else if c=34 then _ else _)=_;rw[if_neg h1,if_neg h2,endQ_skip (i+1) t m (fun x hx=>h x (List.mem_cons_of_mem _ hx)),List.length_cons]
  congr 1;omega
theorem endQ_unit (b:Bool) (i:Nat) (l:List UInt8) (hl:l≠[]) (h:128≤(decL l).1):endQ b i l=endQ false (i+(decL l).2) (l.drop (decL l).2):=by
 have hc:=dec_conts l h hl;have hw:=dec_w l;have hlen:(l.take (decL l).2).length=(decL l).2:=(by rw[List.length_take];have:=hw.2.2 hl;omega);have e:=List.take_append_drop (decL l).2 l;cases b with
 | false=>
  have h2:=endQ_skip i (l.take (decL l).2) (l.drop (decL l).2) hc;rw[e,hlen]at h2;exact h2
 | true=>
  generalize (decL l).2=n at *;cases l with
  | nil=>exact absurd rfl hl
  | cons c t=>
   obtain⟨m,rfl⟩:∃ m,n=m+1:=⟨n - 1,by omega⟩
   rw[List.take_succ_cons]at hc;have h2:=endQ_skip (i+1) (t.take m) (t.drop m) (fun x hx=>hc x (List.mem_cons_of_mem _ hx));rw[List.take_append_drop]at h2;rw[List.drop_succ_cons];show endQ false (i+1) t=_;rw[h2,List.length_take,show min m t.length=m by have:=hlen;simp only[List.take_succ_cons,List.length_cons,List.length_take]at this;omega]
   congr 1;omega
theorem endQ_lt:∀ (l:List UInt8) (b:Bool) (i k:Nat),endQ b i l=some k→i≤k∧k < i+l.length
 | [],b,i,k,h=>by rw[endQ_nil]at h;cases h
 | c::t,true,i,k,h=>by
  have:=endQ_lt t false (i+1) k h;rw[List.length_cons];omega
 | c::t,false,i,k,h=>by
  rw[List.length_cons];have h':(if c=92 then endQ true (i+1) t else if c=34 then some i else endQ false (i+1) t)=some k:=h;split at h'
  ·have:=endQ_lt t true (i+1) k h';omega
  split at h'
  ·cases h';omega
  ·have:=endQ_lt t false (i+1) k h';omega
end Go.Proofs.YtkblpaabknjckaaGreatDoor
