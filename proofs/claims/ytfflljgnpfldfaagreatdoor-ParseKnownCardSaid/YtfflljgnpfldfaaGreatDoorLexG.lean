/-
  lex.Scan: contract.
-/
import Derived.Test.YtfflljgnpfldfaaGreatDoorLexE
import Derived.Test.YtfflljgnpfldfaaGreatDoorBaseC
set_option linter.all false
set_option maxHeartbeats 128000000
set_option maxRecDepth 100000
namespace Go.Proofs.YtfflljgnpfldfaaGreatDoor
open Go.Proofs.Tryz
open Go.RowKit Go.Shelf
inductive Ch where
 | bad (e:Nat)
 | good (k:Int) (t:List UInt8) (n:Nat)
def Ch.val:Ch→Value
 | .bad e=>gI e
 | .good k t n=>iq k t n
def rz (s:List UInt8):Ch:=match eQ false 1 (s.drop 1)with
 | none=>.bad 6
 | some i=>match uN (s.take (i+1))with
  | .bad n=>if n=5 then .bad 5 else .bad 6
  | .good t=>.good 3 t (i+1)
def gG (s:List UInt8):Ch:=
 if js (ay s).1=true then .good 1 (s.take (l9 s)) (l9 s)
 else if (eZ (ay s).1 || jI (ay s).1 s)=true then (if fg s=0 then .bad 8 else .good 2 (s.take (fg s)) (fg s))
 else if (ay s).1=34 then rz s
 else if oK (ay s).1=true then .good 4 (s.take 1) 1
 else if jv s=true then .good 4 (s.take 3) 3 else .bad 7
theorem anr (s:List UInt8):D8 s=(rz s).val:=by
 unfold D8 sA rz;split
 ·rename_i h;rw[h];rfl
 ·rename_i i h
  rw[h];simp only;cases uN (s.take (i+1))with
  | bad n=>simp only;split<;>rfl
  | good t=>rfl
theorem ans (s:List UInt8):JC s=(gG s).val:=by
 unfold JC gG;split
 ·rfl
 ·split
  ·split<;>rfl
  ·split
   ·exact anr s
   ·split
    ·rfl
    ·split<;>rfl
def Ch.ok (s:List UInt8):Ch→Prop
 | .bad e=>0 < e∧e < 9
 | .good k t n=>n≤s.length∧1≤k∧k≤4
theorem MA (s:List UInt8) (hne:s≠[]):(gG s).ok s:=by
 have bm:0 < s.length:=qs.2 hne;unfold gG;split
 ·exact⟨Rl s,ah,ah⟩
 ·split
  ·split
   ·exact⟨ah,ah⟩
   ·exact⟨Rm s,ah,ah⟩
  ·split
   ·unfold rz;split
    ·exact⟨ah,ah⟩
    ·rename_i i h
     split
     ·split<;>exact⟨ah,ah⟩
     ·exact⟨by have:=JE _ _ _ _ h;rw[e7]at this;omega,ah,ah⟩
   ·split
    ·exact⟨ae,ah,ah⟩
    ·split
     ·rename_i h
      refine⟨?_,ah,ah⟩;rcases lI s.length 3 with h3|h3
      ·exfalso;unfold jv at h;have hl3:(s.take 3).length < 3:=Fe;have hb:∀ a b c,(s.take 3 == [a,b,c])=false:=fun a b c=>by
        exact acr
       rw[hb,hb,hb,hb]at h;exact absurd h ah
      ·exact h3
     ·exact⟨ah,ah⟩
structure aw where
 kind:Int
 text:List UInt8
 line:Int
 ak:Int
def bZ (t:aw):List Value:=[.int .i64 t.kind,.string ⟨t.text.toArray⟩,.int .i64 t.line,.int .i64 t.ak]
theorem Gj (t:aw):(bZ t).length=4:=rfl
theorem Ro:eO prog 104 129 4 40:=eO.mk' (.agg #[.int .i64 0,.string ⟨#[]⟩,.int .i64 0,.int .i64 0]) underlying104 aj rfl ah ah
inductive qG where
 | bad (v:Value)
 | good (l:List aw)
def qb (p:Int×Int):aw:=⟨0,[],p.1,p.2⟩
def fX:Nat→List UInt8→Nat→Int×Int→List aw→qG
 | 0,_,_,p,acc=>.good (acc++[qb p])
 | f+1,s,skip,p,acc=>
  if s=[] then .good (acc++[qb p])
  else if skip=0∧iR (ay s).1=false then
   match gG s with
   | .bad e=>.bad (eH (e:Nat) p.1 p.2)
   | .good k t n=>fX f (s.drop (ay s).2) (n - (ay s).2) (bW p (ay s).1) (acc++[⟨k,t,p.1,p.2⟩])
  else fX f (s.drop (ay s).2) (skip - (ay s).2) (bW p (ay s).1) acc
def gB (s:List UInt8):qG:=
 if 1048576 < s.length then .bad (dE 5) else match tG s with
  | none=>fX s.length s 0 (1,1) []
  | some u=>.bad (eH 6 u.line u.ak)
theorem tK (f:Nat) (skip:Nat) (p:Int×Int) (acc:List aw):fX f [] skip p acc=.good (acc++[qb p]):=by
 cases f<;>simp[fX]
def WT (w:World) (r:qG) (e:Ending) (w':World):Prop:=match r with
 | .bad v=>e=.returned (.tuple #[.slice none 0 0,v])∧Below w.heap.size w w'
 | .good l=>∃ a c,e=.returned (.tuple #[.slice a l.length c,.nilIface])∧aG w' w.heap.size 129 4 bZ (.slice a l.length c) l∧Below w.heap.size w w'
theorem aG.Gk {α:Type} {w:World} {base:Nat} {e:TypeId} {size:Nat} {en:α→List Value} {v:Value} {xs:List α} (h:aG w base e size en v xs) {p:Addr} (hp:∀ k,v.ownBlock=some k→p.block≠k) (u:Value):aG (w.setCell p u) base e size en v xs:=by
 refine⟨h.1,?_⟩;rcases h.2 with h0|⟨g,cap,cur,hv,h1,h2,h3⟩
 ·exact .inl h0
 ·refine .inr ⟨g,cap,cur,hv,h1,?_,h3⟩;rw[dN w p u g (Ne.symm (hp g (by rw[hv];rfl)))];exact h2
theorem aeN (s:List UInt8):(xO s=.nilIface∧s.length≤1048576∧gB s=fX s.length s 0 (1,1) [])∨∃ T d,xO s=.iface T d∧gB s=.bad (.iface T d):=by
 unfold xO gB;split
 ·exact .inr ⟨_,_,rfl,rfl⟩
 ·split
  ·rename_i h;rw[h];exact .inl ⟨rfl,ae,rfl⟩
  ·rename_i h;rw[h];exact .inr ⟨_,_,rfl,rfl⟩
theorem WU {f:Nat} {s:List UInt8} {sk:Nat} {p:Int×Int} {acc:List aw} (hne:s≠[]) (h0:sk=0) (hb:iR (ay s).1=false):fX (f+1) s sk p acc=match gG s with
   | .bad e=>.bad (eH (e:Nat) p.1 p.2)
   | .good k t n=>fX f (s.drop (ay s).2) (n - (ay s).2) (bW p (ay s).1) (acc++[⟨k,t,p.1,p.2⟩]):=by
 rw[fX,if_neg hne,if_pos ⟨h0,hb⟩];all_goals (cases gG s<;>rfl)
theorem Rp {f:Nat} {s:List UInt8} {sk:Nat} {p:Int×Int} {acc:List aw} (hne:s≠[]) (h:¬ (sk=0∧iR (ay s).1=false)):fX (f+1) s sk p acc=fX f (s.drop (ay s).2) (sk - (ay s).2) (bW p (ay s).1) acc:=by
 rw[fX,if_neg hne,if_neg h]
theorem aG.of_heap {α:Type} {w w':World} {base:Nat} {e:TypeId} {size:Nat} {en:α→List Value} {v:Value} {xs:List α} (h:aG w base e size en v xs) (hh:∀ k,v.ownBlock=some k→w'.heap[k]? = w.heap[k]?):aG w' base e size en v xs:=by
 refine⟨h.1,?_⟩;rcases h.2 with h0|⟨g,cap,cur,hv,h1,h2,h3⟩
 ·exact .inl h0
 ·refine .inr ⟨g,cap,cur,hv,h1,?_,h3⟩;rw[hh g (by rw[hv];rfl)];exact h2
structure tM (s:List UInt8) (w:World) (A:Nat) (wr:World) (v:Value) (k:Nat) (L C:Int) (acc:List aw):Prop where
 it:wr.heap[A+1]? = some (.stringIter ⟨s.toArray⟩ k)
 bk:ai wr A #[.int .i64 L,.int .i64 C]
 own:aG wr w.heap.size 129 4 bZ v acc
 far:∀ j,v.ownBlock=some j→A+1 < j
 cL:Below w.heap.size w wr
 sz:A+1 < wr.heap.size
 low:w.heap.size≤A
theorem tM.below {s:List UInt8} {w:World} {A:Nat} {wr w':World} {v:Value} {k:Nat} {L C:Int} {acc:List aw} (h:tM s w A wr v k L C acc) (hb:Below wr.heap.size wr w'):tM s w A w' v k L C acc:=
 ⟨by rw[hb.block _ h.sz];exact h.it,h.bk.keep hb af,h.own.keep hb af,h.far,aH h.cL hb af,iH h.sz hb.size,h.low⟩
theorem tM.next {s:List UInt8} {w:World} {A:Nat} {wr:World} {v:Value} {k:Nat} {L C:Int} {acc:List aw} (h:tM s w A wr v k L C acc) (k':Nat):tM s w A (wr.iterAt (A+1) ⟨s.toArray⟩ k') v k' L C acc:=
 ⟨Dm wr (A+1) ⟨s.toArray⟩ k k' h.it,h.bk.same (Fw _ _ _ _ _ ae),h.own.of_heap (fun j hj=>Fw _ _ _ _ _ (by have:=h.far j hj;omega)),h.far,
  BB h.cL (by have:=h.low;omega) _ _,by rw[Lib.iterAt_size];exact h.sz,h.low⟩
theorem tM.store {s:List UInt8} {w:World} {A:Nat} {wr:World} {v:Value} {k:Nat} {L C:Int} {acc:List aw} (h:tM s w A wr v k L C acc) (j:Nat) (u:Value) {L' C':Int} (hc:#[Value.int .i64 L,.int .i64 C].setIfInBounds j u=#[.int .i64 L',.int .i64 C']):tM s w A (wr.setCell ⟨A,j,none⟩ u) v k L' C' acc:=
 ⟨by rw[dN wr ⟨A,j,none⟩ u (A+1) (by show A+1≠A;omega)];exact h.it,by rw[← hc];exact h.bk.st j u,h.own.Gk (fun i hi=>by have:=h.far i hi;show A≠i;omega) u,h.far,
  h.cL.setCell (p:=⟨A,j,none⟩) h.low _,by simpa using h.sz,h.low⟩
theorem tM.app {s:List UInt8} {w:World} {A:Nat} {wr w1:World} {v v':Value} {k:Nat} {L C:Int} {acc qd:List aw} (h:tM s w A wr v k L C acc) (ho:aG w1 w.heap.size 129 4 bZ v' qd) (hb:Below w.heap.size w w1) (hg:wr.grownBy w1 v.ownBlock) (hv:∀ k,v'.ownBlock=some k→v.ownBlock=some k∨wr.heap.size≤k):tM s w A w1 v' k L C qd:=by
 have hsz:=h.sz;have hk:∀ i,i < wr.heap.size→i≤A+1→w1.heap[i]? = wr.heap[i]?:=fun i hi hA=>hg.block i hi (fun e=>by have:=h.far i e.symm;omega)
 exact⟨by rw[hk _ hsz af];exact h.it,h.bk.same (hk _ ae ae),ho,fun j hj=>PE,hb,iH hsz hg.size,h.low⟩
structure Ci (s:List UInt8) (V:qG) (k f u:Nat) (L C:Int) (acc:List aw):Prop where
 hk:k≤s.length
 hf:s.length≤f+k
 hu:u≤s.length
 hv:V=fX f (s.drop k) (u - k) (L,C) acc
 l1:1≤L
 l2:L≤(k:Int)+1
 c1:1≤C
 c2:C≤(k:Int)+1
 n:acc.length≤k
theorem Ci.step {s:List UInt8} {V:qG} {k f u:Nat} {L C:Int} {acc:List aw} (h:Ci s V k (f+1) u L C acc) {N u':Nat} {L' C':Int} {qd:List aw} (h1:1≤N) (h2:k+N≤s.length) (h3:u'≤s.length)
  (hv:V=fX f (s.drop (k+N)) (u' - (k+N)) (L',C') qd) (hl:qd.length≤acc.length+1) (h4:(L' = L+1∧C' = 1)∨(L' = L∧C' = C+1)):Ci s V (k+N) f u' L' C' qd:=by
 obtain⟨_,b,_,_,e1,e2,e3,e4,n⟩:=h;refine⟨h2,ae,h3,hv,?_,?_,?_,?_,ae⟩<;>rcases h4 with ⟨rfl,rfl⟩|⟨rfl,rfl⟩<;>omega
theorem Ci.skip {s:List UInt8} {V:qG} {k f u:Nat} {L C:Int} {acc:List aw} (h:Ci s V k (f+1) u L C acc) (hlt:k < s.length) (hb:¬ (u - k=0∧iR (ay (s.drop k)).1=false)):V=fX f (s.drop (k+(ay (s.drop k)).2)) (u - (k+(ay (s.drop k)).2)) (bW (L,C) (ay (s.drop k)).1) acc:=by
 refine Hv ?_;intro hne;rw[h.hv,Rp hne hb,lG,Nat.sub_sub]
theorem Ci.tok {s:List UInt8} {V:qG} {k f u:Nat} {L C:Int} {acc:List aw} (h:Ci s V k (f+1) u L C acc) (hlt:k < s.length) (h0:u - k=0) (hb:iR (ay (s.drop k)).1=false):V=match gG (s.drop k)with
   | .bad e=>.bad (eH (e:Nat) L C)
   | .good kk t n=>fX f (s.drop (k+(ay (s.drop k)).2)) (k+n - (k+(ay (s.drop k)).2)) (bW (L,C) (ay (s.drop k)).1) (acc++[⟨kk,t,L,C⟩]):=by
 refine Hv ?_;intro hne;rw[h.hv,WU hne h0 hb];cases gG (s.drop k)with
 | bad e=>rfl
 | good kk t n=>simp only[lG];rw[show k+n - (k+(ay (s.drop k)).2)=n - (ay (s.drop k)).2 by omega]
theorem ant (s:List UInt8) (hs:s.length≤9223372036854775807) (w:World) (hT:xP w) :
  Calls prog 35 #[.string ⟨s.toArray⟩] w (WT w (gB s)):=by
 have JF:=akk s ae w;obtain⟨V,hV⟩:∃ V,V=gB s:=⟨_,rfl⟩
 rw[← hV];rcases aeN s with ⟨h1,h2,h3⟩|⟨T,d,h1,h2⟩
 ·have HT:=Qh hT;have HV:=Qh (hV.trans h3);rw[h1]at JF;clear hV h1 h3 hs hT;go_enter func35,ntmps35
  go_wp2_with fail;refine aQ (JF) ?_;intro w1 hb
  have hA:=hb.size;have h0:tM s w w1.heap.size ((w1.alloc (.cells #[.int .i64 1,.int .i64 1] 24)).iter ⟨s.toArray⟩ 0) (.slice none 0 0) 0 1 1 []:=
   ⟨by have:=Dl (w1.alloc (.cells #[.int .i64 1,.int .i64 1] 24)) ⟨s.toArray⟩ 0;rwa [jW]at this,
    (ai.new w1 _ _).alloc _,aG.nil _ _ _ _ _,(fun j h=>xq),(hb.alloc hA _).alloc cO _,(by rw[show((w1.alloc (.cells #[.int .i64 1,.int .i64 1] 24)).iter ⟨s.toArray⟩ 0).heap.size=w1.heap.size+1+1 from by simp[World.iter]];omega),hA⟩
  have hI:Ci s V 0 s.length 0 1 1 []:=⟨bV _,af,bV _,HV.o,ah,ah,ah,ah,af⟩
  have MT:=Qh hI;clear hI;have H0:=Qh h0;clear h0 hb JF HV;go_wp2_with fail;generalize (w1.alloc (.cells #[.int .i64 1,.int .i64 1] 24)).iter ⟨s.toArray⟩ 0=V0 at *;generalize w1.heap.size=A at *;go_loopw [5,7] (fun v un wr=>∃ (k f u:Nat) (L C:Int) (acc:List aw),un=.int .i64 (u:Nat)∧Ci s V k f u L C acc∧tM s w A wr v k L C acc) (fun _ _ wr=>s.length - wr.iterPos (A+1))
  case atStart=>exact⟨0,s.length,0,1,1,[],rfl,MT.o,H0.o⟩
  case round=>
   clear H0 MT;obtain⟨k,f,u,L,C,acc,rfl,hI,hX⟩:=hrel;have HM:=Qh (rU hX.it:wr.iterPos (A+1)=k);have HI:=Qh hI;by_cases hlt:k < s.length
   ·obtain⟨f,rfl⟩:∃ g,f=g+1:=⟨f - 1,by have:=hI.hf;omega⟩
    refine Hv ?_;intro hne;have hw:=pd (s.drop k);have hw2:=hw.2.2 hne;have hw1:=hw.1;have hit:=hX.it;have fR:k < (⟨s.toArray⟩:ByteArray).size:=hlt;have dW:∀ ty,(Instr.next (.pointer (some ⟨A+1,0,none⟩)) true ty).run prog wr=_:=fun ty=>Lib.run_next_any_at wr (A+1) ⟨s.toArray⟩ k ty hit fR
    rw[Ba]at dW;have MU:=hX.next (k+(ay (s.drop k)).2);have WV:=hI.skip hlt;have WW:=hI.tok hlt;have hstep:=fun (u':Nat) (L' C':Int) (qd:List aw) (h3:u'≤s.length) (hv:V=fX f (s.drop (k+(ay (s.drop k)).2)) (u' - (k+(ay (s.drop k)).2)) (L',C') qd) (hl:qd.length≤acc.length+1) (h4:(L' = L+1∧C' = 1)∨(L' = L∧C' = C+1))=>hI.step (N:=(ay (s.drop k)).2) hw1 (by rw[e7]at hw2;omega) h3 hv hl h4
    have iJ:=fun W hW=>anq (s.drop k) Ih hne W hW
    have dp:=MA (s.drop k) hne;rw[e7]at hw2;have OG:=hI.hu;have hwC:IntKind.i64.wrap (C+1)=C+1:=by
     have h3:=hI.c1;have h4:=hI.c2;exact CP
    have hwL:IntKind.i64.wrap (L+1)=L+1:=by
     have h3:=hI.l1;have h4:=hI.l2;exact CP
    have hlen:(⟨s.toArray⟩:ByteArray).size=s.length:=rfl;have akh:=FR s k ae;have hn:=hI.n;rw[ans]at iJ;generalize wr.iterAt (A+1) ⟨s.toArray⟩ (k+(ay (s.drop k)).2)=wv at *;generalize ay (s.drop k)=dd at *;obtain⟨R,N⟩:=dd;simp only at dW MU WV WW hstep iJ hw1 hw2;refine aY MU hstep WV ?_;intro HX EW K8;refine lC WW dp iJ MU.it ?_;intro Rq ky kY om;obtain⟨c0,c1,f0,f1⟩:=MU.bk.two;clear hX hI WV WW hstep iJ dp MU fR hit hne hw;by_cases hu:(u:Int)≤k
    ·by_cases hb:iR R=true
     ·clear Rq kY ky;have bO:R=10∨R=32∨R=9∨R=13:=by
       unfold iR at hb;simp only[nJ,dZ]at hb;omega
      rcases bO with e|e|e|e
      ·have hb2:=hb;have g1:((R:Int) != 32)=true:=lD;have g2:((R:Int) != 9)=true:=lD;have g3:((R:Int) != 10)=false:=lD;have g4:((R:Int) != 13)=true:=lD;have g5:((R:Int) == 10)=true:=lD;have HS:=Qh (EW.o u _ _ acc OG (by rw[K8.o (by rw[hb2];rintro⟨_,h⟩;cases h),e];rfl) ae (.inl ⟨rfl,rfl⟩));clear e hb hb2;go_wp2_with fail;go_roundw;case rel=>exact⟨k+N,f,u,L+1,1,acc,rfl,HS.o,((HX.o.store 1 (.int .i64 (C+1)) rfl).store 0 (.int .i64 (L+1)) rfl).store 1 (.int .i64 1) rfl⟩
       case measure=>exact abP
      ·have hb2:=hb;have g1:((R:Int) != 32)=false:=lD;have g2:((R:Int) != 9)=true:=lD;have g3:((R:Int) != 10)=true:=lD;have g4:((R:Int) != 13)=true:=lD;refine Uh ?_;intro g5 HS;clear e hb hb2;go_wp2_with fail;go_roundw;case rel=>exact⟨k+N,f,u,L,C+1,acc,rfl,HS.o,(HX.o.store 1 (.int .i64 (C+1)) rfl)⟩
       case measure=>exact O1
      ·have hb2:=hb;have g1:((R:Int) != 32)=true:=lD;have g2:((R:Int) != 9)=false:=lD;have g3:((R:Int) != 10)=true:=lD;have g4:((R:Int) != 13)=true:=lD;refine Uh ?_;intro g5 HS;clear e hb hb2;go_wp2_with fail;go_roundw;case rel=>exact⟨k+N,f,u,L,C+1,acc,rfl,HS.o,(HX.o.store 1 (.int .i64 (C+1)) rfl)⟩
       case measure=>exact O1
      ·have hb2:=hb;have g1:((R:Int) != 32)=true:=lD;have g2:((R:Int) != 9)=true:=lD;have g3:((R:Int) != 10)=true:=lD;have g4:((R:Int) != 13)=false:=lD;refine Uh ?_;intro g5 HS;clear e hb hb2;go_wp2_with fail;go_roundw;case rel=>exact⟨k+N,f,u,L,C+1,acc,rfl,HS.o,(HX.o.store 1 (.int .i64 (C+1)) rfl)⟩
       case measure=>exact O1
     ·have hb2:iR R=false:=(by simpa using hb);have bO:R≠32∧R≠9∧R≠10∧R≠13:=by
       unfold iR at hb;simp only[nJ,dZ,not_or]at hb;exact⟨hb.1.1.1,hb.1.1.2,hb.1.2,hb.2⟩
      obtain⟨e1,e2,e3,e4⟩:=bO;have g1:((R:Int) != 32)=true:=vH;have g2:((R:Int) != 9)=true:=vH;have g3:((R:Int) != 10)=true:=vH;have g4:((R:Int) != 13)=true:=vH;have g5:((R:Int) == 10)=false:=ft;have hv:=Rq.o ae hb2;unfold bW at hv;rw[if_neg e3]at hv;have iJ:=kY.o;have dp:=ky.o;clear Rq kY ky K8 hb hb2 e1 e2 e3 e4;cases Rs:gG (s.drop k)with
      | bad e0=>
       rw[Rs]at hv iJ dp;have HV:=Qh (hv:V=.bad (eH (e0:Nat) L C));have ge:((e0:Int) != 0)=true:=(by have h9:0 < e0:=dp.1;rw[bne_iff_ne];omega);unfold Ch.val gI qj at iJ;simp only at iJ;clear Rs hv dp EW;go_wp2_with fail;refine aQ (iJ _ (HT.o.keep HX.o.cL)) ?_;intro w5 hb
       have wB:=Qh (HX.o.below hb);have anu:=wB.o.sz;have hA5:A < w5.heap.size:=ae;clear c0 c1 f0 f1 hb iJ;obtain⟨c0,c1,f0,f1⟩:=wB.o.bk.two;have aeO:=Qh (wB.o.cL);go_wp2_with fail;go_quiet (fail)
       go_wp2_with fail;exact bB (v:=.tuple #[.slice none 0 0,eH (e0:Nat) L C]) (by simp[results,results35,go_sem,eH]) rfl (by rw[HV.o];exact⟨rfl,(aeO.o.alloc aeO.o.size _).trans ⟨rfl,rfl,rfl,af,fun _ _=>rfl⟩⟩)
      | good kk t n=>
       rw[Rs]at hv iJ dp;have HV:=Qh (hv:V=fX f (s.drop (k+N)) (k+n - (k+N)) (L,C+1) (acc++[⟨kk,t,L,C⟩]));have wj:n≤s.length - k:=(by have h9:n≤(s.drop k).length:=dp.1;rwa [e7]at h9);have hwU:IntKind.i64.wrap ((k:Int)+n)=((k+n:Nat):Int):=by
        exact CP
       have HS:=Qh (EW.o (k+n) L (C+1) (acc++[⟨kk,t,L,C⟩]) ae HV.o aB (.inr ⟨rfl,rfl⟩));unfold Ch.val iq qj at iJ;simp only at iJ;clear Rs hv dp EW;go_wp2_with fail;refine aQ (iJ _ (HT.o.keep HX.o.cL)) ?_;intro w5 hb
       have wB:=Qh (HX.o.below hb);have anu:=wB.o.sz;have hA5:A < w5.heap.size:=ae;clear c0 c1 f0 f1 hb iJ;obtain⟨c0,c1,f0,f1⟩:=wB.o.bk.two;have WX:=Qh (wB.o.below ((aC w5.heap.size w5).alloc af (.cells #[.int .i64 kk,.string ⟨t.toArray⟩,.int .i64 L,.int .i64 C] 129)));go_wp2_with (at_builtin;go_loud (refine iL Ro acc ⟨kk,t,L,C⟩ WX.o.own WX.o.cL af ae ?_ (hx:=P0) (hone:=by simp[bZ,Value.oneCell'])))
       intro v' w9 hown bP hg hv;have gM:=Qh (WX.o.app hown bP hg (by rw[jW];exact hv));have auY:=gM.o.sz;clear c0 c1 f0 f1 hown bP hg hv;obtain⟨c0,c1,f0,f1⟩:=gM.o.bk.two;go_wp2_with fail;go_roundw;case rel=>exact⟨k+N,f,k+n,L,C+1,acc++[⟨kk,t,L,C⟩],rfl,HS.o,(gM.o.store 1 (.int .i64 (C+1)) rfl)⟩
       case measure=>rw[rU (gM.o.store 1 (.int .i64 (C+1)) rfl).it,HM.o];omega
    ·clear Rq kY ky;by_cases e:R=10
     ·have g5:((R:Int) == 10)=true:=lD;have HS:=Qh (EW.o u _ _ acc OG (by rw[K8.o (by intro h;omega),e];rfl) ae (.inl ⟨rfl,rfl⟩));clear e;go_wp2_with fail;go_roundw;case rel=>exact⟨k+N,f,u,L+1,1,acc,rfl,HS.o,((HX.o.store 1 (.int .i64 (C+1)) rfl).store 0 (.int .i64 (L+1)) rfl).store 1 (.int .i64 1) rfl⟩
      case measure=>exact abP
     ·have g5:((R:Int) == 10)=false:=ft;have MV:=e;have HS:=Qh (EW.o u _ _ acc OG (by rw[K8.o (by intro h;omega)];unfold bW;rw[if_neg MV]) ae (.inr ⟨rfl,rfl⟩));clear e MV;go_wp2_with fail;go_roundw;case rel=>exact⟨k+N,f,u,L,C+1,acc,rfl,HS.o,(HX.o.store 1 (.int .i64 (C+1)) rfl)⟩
      case measure=>exact O1
   ·have cz:k=s.length:=(by have:=hI.hk;omega);have HV:=Qh (show V=.good (acc++[qb (L,C)])by rw[hI.hv,cz,qZ,tK]);have hit:=hX.it;have fR:¬ k < (⟨s.toArray⟩:ByteArray).size:=hlt;have dW:∀ ty,(Instr.next (.pointer (some ⟨A+1,0,none⟩)) true ty).run prog wr=_:=fun ty=>IF wr (A+1) ⟨s.toArray⟩ k ty hit fR
    have hn:=hI.n;have HX:=Qh hX;obtain⟨c0,c1,f0,f1⟩:=hX.bk.two;have hk2:k≤s.length:=ae;clear fR hit cz hX hI HI HM;go_wp2_with (at_builtin;go_loud (refine iL Ro acc (qb (L,C)) HX.o.own HX.o.cL af ae ?_ (hone:=by simp[bZ,qb,Value.oneCell'])))
    intro v' w9 hown bP hg hv;obtain⟨a,c,rfl,_⟩:=hown.shape;have HO:=Qh hown;have HB:=Qh bP;clear hown bP hg hv c0 c1 f0 f1;go_wp2_with fail;exact bB (v:=.tuple #[.slice a (acc++[qb (L,C)]).length c,.nilIface]) (by simp[results,results35,go_sem]) rfl (by rw[HV.o];exact⟨a,c,rfl,HO.o,HB.o⟩)
 ·have HV:=Qh (hV.trans h2);rw[h1]at JF;clear hV h1 h2 hs hT;go_enter func35,ntmps35
  go_wp2_with fail;refine qT (JF) ?_;clear JF;intro w1 HB
  go_wp2_with fail;exact bB (v:=.tuple #[.slice none 0 0,.iface T d]) (by simp[results,results35,go_sem]) rfl (by rw[HV.o];exact⟨rfl,HB.o⟩)
end Go.Proofs.YtfflljgnpfldfaaGreatDoor
