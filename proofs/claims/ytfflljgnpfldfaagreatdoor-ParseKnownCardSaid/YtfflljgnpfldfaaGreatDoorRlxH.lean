/-
  The reference of chapter 04: Scan: contract.
-/
import Derived.Test.YtfflljgnpfldfaaGreatDoorRlxF
set_option linter.all false
set_option maxHeartbeats 128000000
set_option maxRecDepth 100000
namespace Go.Proofs.YtfflljgnpfldfaaGreatDoor
open Go.Proofs.Tryz
open Go.RowKit Go.Shelf
def EP (p:Int×Int):List Value:=[.int .i64 p.1,.int .i64 p.2]
theorem as0 (p:Int×Int):(EP p).length=2:=rfl
theorem aih:eO prog 88 24 2 16:=eO.mk' (.agg #[.int .i64 0,.int .i64 0]) underlying88 aj rfl ah ah
theorem aaB {w:World} {a:Option Addr} {cap:Nat} {l:List (Int×Int)} (h:bA w EP 2 a cap l) {k:Nat} (hk:k < l.length) :
  ∃ b o,a=some ⟨b,o,none⟩∧b < w.heap.size∧w.cell? ⟨b,o+k*2,none⟩=some (.int .i64 l[k].1)∧w.cell? ⟨b,o+k*2+1,none⟩=some (.int .i64 l[k].2):=by
 obtain⟨b,o,rfl,hb,hc⟩:=bA.cells h as0 ah hk;exact acn
def oU (l:List ig):List (Int×Int):=l.flatMap fun u=>List.replicate u.wide (u.line,u.ak)
def TG (l:List ig) (p:Int×Int):Int×Int:=l.foldl (fun p u=>bW p u.rune) p
theorem aii:∀ (f:Nat) (s:List UInt8) (p:Int×Int),pJ f s p=oU (dc f s p)++[TG (dc f s p) p]
 | 0,_,_=>rfl
 | f+1,s,p=>by
  by_cases h0:s=[]
  ·subst h0;rw[aaC,ah3];rfl
  ·have e:dc (f+1) s p=⟨p.1,p.2,(ay s).1,(ay s).2⟩::dc f (s.drop (ay s).2) (bW p (ay s).1):=by
    show(if s=[] then [] else _)=_;rw[if_neg h0]
   rw[TH h0,aii f,e];unfold oU TG;rw[Dk,List.foldl_cons,o6]
theorem aij (xs:List ig):∀ k,k≤xs.length→j0 xs k=TG (xs.take k) (1,1)
 | 0,_=>rfl
 | k+1,hk=>by
  show bW (j0 xs k) ((xs[k]?.map ig.rune).getD 0)=_;rw[aij xs k ae,Bo ae,kC ae];unfold TG;rw[List.foldl_append];rfl
theorem as1 (s:List UInt8):pJ s.length s (1,1)=oU (aK s)++[j0 (aK s) (aK s).length]:=by
 rw[aii,aij _ _ af,vN];rfl
theorem as2 (l:List ig):(oU l).length=(l.map ig.wide).sum:=by
 unfold oU
 induction l with
 | nil=>rfl
 | cons u l ih=>rw[Dk,ey,ih,rQ,zH,List.sum_cons]
theorem as3 (l:List ig) (k:Nat) (hk:k < l.length):oU (l.take (k+1))=oU (l.take k)++List.replicate l[k].wide (l[k].line,l[k].ak):=by
 unfold oU;rw[Bo hk,zx,Dk,List.flatMap_nil,pT]
theorem as4 (s:List UInt8) (k:Nat):fJ (aK s) k≤s.length:=by
 have h:=adu s.length s (1,1) af;have h2:fJ (aK s) (aK s).length=s.length:=h;rw[← h2];unfold fJ;rw[vN]
 conv=>rhs;rw[← ID k (aK s)]
 rw[vO,List.sum_append];omega
theorem as5 (s:List UInt8) (k:Nat) (hk:k < (aK s).length):(oU ((aK s).take k)).length+(aK s)[k].wide≤s.length:=by
 have h:=as4 s (k+1);rw[VL _ _ hk]at h;unfold fJ at h;rw[as2];exact h
structure sO (U:List ig) (w:World) (A:Nat) (uv:Value) (wr:World) (v:Value) (acc:List (Int×Int)) (L C:Int):Prop where
 own:aG wr w.heap.size 24 2 EP v acc
 us:aG wr w.heap.size 258 5 Fc uv U
 bk:ai wr A #[.int .i64 L,.int .i64 C]
 far:∀ j,v.ownBlock=some j→A < j
 ua:∀ j,uv.ownBlock=some j→j < A
 cL:Below w.heap.size w wr
 sz:A < wr.heap.size
 low:w.heap.size≤A
theorem sO.below {U:List ig} {w:World} {A:Nat} {uv:Value} {wr w':World} {v:Value} {acc:List (Int×Int)} {L C:Int} (h:sO U w A uv wr v acc L C) (hb:Below wr.heap.size wr w'):sO U w A uv w' v acc L C:=
 ⟨h.own.keep hb af,h.us.keep hb af,h.bk.keep hb af,h.far,h.ua,aH h.cL hb af,iH h.sz hb.size,h.low⟩
theorem sO.drew {U:List ig} {w:World} {A:Nat} {uv:Value} {wr:World} {v:Value} {acc:List (Int×Int)} {L C:Int} (h:sO U w A uv wr v acc L C):sO U w A uv wr.drew v acc L C:=h.below (aC _ _).drew
theorem sO.store {U:List ig} {w:World} {A:Nat} {uv:Value} {wr:World} {v:Value} {acc:List (Int×Int)} {L C:Int} (h:sO U w A uv wr v acc L C) (L' C':Int):sO U w A uv ((wr.setCell ⟨A,0,none⟩ (.int .i64 L')).setCell ⟨A,1,none⟩ (.int .i64 C')) v acc L' C':=
 ⟨(h.own.Gk (p:=⟨A,0,none⟩) (fun i hi=>by have:=h.far i hi;show A≠i;omega) _).Gk (p:=⟨A,1,none⟩) (fun i hi=>by have:=h.far i hi;show A≠i;omega) _,
  (h.us.Gk (p:=⟨A,0,none⟩) (fun i hi=>by have:=h.ua i hi;show A≠i;omega) _).Gk (p:=⟨A,1,none⟩) (fun i hi=>by have:=h.ua i hi;show A≠i;omega) _,
  (h.bk.st 0 _).st 1 _,h.far,h.ua,(h.cL.setCell (p:=⟨A,0,none⟩) h.low _).setCell (p:=⟨A,1,none⟩) h.low _,by simpa using h.sz,h.low⟩
theorem sO.app {U:List ig} {w:World} {A:Nat} {uv:Value} {wr w1:World} {v v':Value} {acc qd:List (Int×Int)} {L C:Int} (h:sO U w A uv wr v acc L C) (ho:aG w1 w.heap.size 24 2 EP v' qd) (hb:Below w.heap.size w w1) (hg:wr.grownBy w1 v.ownBlock) (hv:∀ k,v'.ownBlock=some k→v.ownBlock=some k∨wr.heap.size≤k):sO U w A uv w1 v' qd L C:=by
 have hsz:=h.sz;exact⟨ho,h.us.other hg (h.own.kind h.us ah),h.bk.same (hg.block _ hsz (fun e=>by have:=h.far A e.symm;omega)),fun j hj=>PE,h.ua,hb,iH hsz hg.size,h.low⟩
theorem as6 (s:List UInt8) (hs:s.length≤1048576) (w:World) :
  Calls prog 102 #[.string ⟨s.toArray⟩] w fun e w'=>∃ a c,e=.returned (.slice a (s.length+1) c)∧aG w' w.heap.size 24 2 EP (.slice a (s.length+1) c) (pJ s.length s (1,1))∧Below w.heap.size w w':=by
 have cU:=fun w=>aav s ae w
 have TI:=aaD s;have HPA:=Qh (as1 s);have BG:=Qh (aaE s.length s (1,1) af);have xN:(aK s).length≤1048576:=ae;go_enter func102,ntmps102
 go_wp2_with fail;refine aI (cU _) ?_
 rintro e w1 ⟨a,c,rfl,ho,hb⟩;have h0:sO (aK s) w w1.heap.size (.slice a (aK s).length c) (w1.alloc (.cells #[.int .i64 1,.int .i64 1] 24)) (.slice none 0 0) [] 1 1:=
  ⟨aG.nil _ _ _ _ _,ho.alloc _,ai.new _ _ _,(fun j h=>xq),(fun j hj=>(ho.lt j hj).2),hb.alloc hb.size _,(by rw[jW];omega),hb.size⟩
 have H0:=Qh h0;clear h0 ho hb cU;go_wp2_with fail;generalize w1.alloc (.cells #[.int .i64 1,.int .i64 1] 24)=W at *;go_loopw [3,6] (fun v x wr=>∃ (j:Nat),x=.int .i64 (j:Nat)∧j≤(aK s).length∧sO (aK s) w w1.heap.size (.slice a (aK s).length c) wr v (oU ((aK s).take j)) (j0 (aK s) j).1 (j0 (aK s) j).2) (fun _ x _=>(aK s).length - (intOf x).toNat)
 case atStart=>exact⟨0,rfl,bV _,H0.o⟩
 case round=>
  clear H0;obtain⟨j,rfl,hj,hP⟩:=hrel;by_cases hlt:(j:Int) < (aK s).length
  ·have a8:j < (aK s).length:=ae;obtain⟨fL,o9⟩:=ado s j a8;have Dq:=as5 s j a8;have QC:=as3 (aK s) j a8;have dW:j0 (aK s) (j+1)=bW (j0 (aK s) j) (aK s)[j].rune:=by
    show bW (j0 (aK s) j) (((aK s)[j]?.map ig.rune).getD 0)=_;rw[kC a8];rfl
   have lJ:=VI s j a8;obtain⟨bu,ou,hau,Mo,e0,e1,e2,e3,e4⟩:=Tx hP.us.sl.2 a8;subst hau;have av1:(aK s)[j].wide≤1048576:=ae;have hPL:=hP.sz;have I3:j0 (aK s) j=((aK s)[j].line,(aK s)[j].ak):=(by rw[fL,o9]);rw[← fL,← o9]at hP;rw[I3]at dW;refine aY dW QC hP ?_;intro je I6 HP;clear fL o9 I3 dW QC hP Mo;go_wp2_with fail;go_loopw [3,7] (fun v x wr=>∃ (m:Nat),x=.int .i64 (m:Nat)∧m≤(aK s)[j].wide∧sO (aK s) w w1.heap.size (.slice (some ⟨bu,ou,none⟩) (aK s).length c) wr v (oU ((aK s).take j)++List.replicate m ((aK s)[j].line,(aK s)[j].ak)) (aK s)[j].line (aK s)[j].ak) (fun _ x _=>(aK s)[j].wide - (intOf x).toNat)
   case atStart=>exact⟨0,rfl,bV _,by rw[List.replicate_zero,pT];exact HP.o⟩
   case round=>
    clear HP e0 e1 e2 e3 e4 hPL;obtain⟨m,rfl,hm,hP⟩:=hrel;obtain⟨bu',ou',hau,Mo,e0,e1,e2,e3,e4⟩:=Tx hP.us.sl.2 a8;cases hau
    have HP:=Qh hP;by_cases hmw:(m:Int) < (aK s)[j].wide
    ·have hbound:((oU ((aK s).take j)++List.replicate m ((aK s)[j].line,(aK s)[j].ak)).length+1)*16≤140737488355328:=by
      rw[ey,rQ];omega
     have nY:=Qh hbound;have HRS:=Qh (show oU ((aK s).take j)++List.replicate (m+1) ((aK s)[j].line,(aK s)[j].ak)=(oU ((aK s).take j)++List.replicate m ((aK s)[j].line,(aK s)[j].ak))++[((aK s)[j].line,(aK s)[j].ak)]by
      rw[List.replicate_succ',o6])
     clear hP hbound je I6;generalize (aK s)[j].line=L at *;generalize (aK s)[j].ak=C at *;generalize (aK s)[j].wide=N at *;generalize oU ((aK s).take j)++List.replicate m (L,C)=acc at *;go_wp2_with (at_builtin;go_loud (refine iL aih acc (L,C) HP.o.own HP.o.cL af nY.o ?_ (hone:=by simp[EP,Value.oneCell'])))
     intro v' w9 hown bP hg hv;have gM:=Qh (HP.o.app hown bP hg hv);clear hown bP hg hv;go_wp2_with fail;go_roundw;case rel=>exact⟨m+1,dV,ae,by rw[HRS.o];exact gM.o⟩
     case measure=>exact nC
    ·obtain rfl:m=(aK s)[j].wide:=by omega
     rw[← I6.o]at HP;have hwC:IntKind.i64.wrap ((aK s)[j].ak+1)=(aK s)[j].ak+1:=by
      exact CP
     have hwL:IntKind.i64.wrap ((aK s)[j].line+1)=(aK s)[j].line+1:=by
      exact CP
     have dW:=je.o;unfold bW at dW;clear hP je I6 lJ;generalize (aK s)[j].line=L at *;generalize (aK s)[j].ak=C at *;have HST:=Qh (HP.o.drew.store L (C+1));obtain⟨r0,r1,f0,f1⟩:=HP.o.drew.bk.two;obtain⟨t0,t1,g0,g1⟩:=HST.o.bk.two;have Gy:w1.heap.size≠bu:=(by have:=HP.o.ua bu rfl;omega);have av2:bu≠w1.heap.size:=fun e=>Gy e.symm
     have d0:wr.drew.cell? ⟨bu,ou+j*5,none⟩=_:=e0;have d2:wr.drew.cell? ⟨bu,ou+j*5+2,none⟩=_:=e2;by_cases hR:(aK s)[j].rune=10
     ·rw[if_pos hR]at dW;have gR:(((aK s)[j].rune:Int) == 10)=true:=(by rw[hR];rfl);have qC:=Qh (HST.o.store (L+1) 1);have je:=Qh dW;clear hR dW;generalize (aK s)[j].rune=R at *;go_wp2_with fail;go_still_tail 14,aj
      change wpList _ _ _ _ _ (World.drew _);generalize wr.drew=wd at *;go_wp2_with fail;go_roundw;case rel=>exact⟨j+1,dV,ae,by rw[je.o];exact qC.o⟩
      case measure=>exact nC
     ·rw[if_neg hR]at dW;have gR:(((aK s)[j].rune:Int) == 10)=false:=ft;have je:=Qh dW;clear hR dW;generalize (aK s)[j].rune=R at *;go_wp2_with fail;go_still_tail 14,aj
      change wpList _ _ _ _ _ (World.drew _);generalize wr.drew=wd at *;go_wp2_with fail;go_roundw;case rel=>exact⟨j+1,dV,ae,by rw[je.o];exact HST.o⟩
      case measure=>exact nC
  ·obtain rfl:j=(aK s).length:=by omega
   rw[vN]at hP;obtain⟨r0,r1,f0,f1⟩:=hP.bk.two;have hl:=BG.o;have G0:=HPA.o;have HFL:=Qh (show((oU (aK s)).length+1)*16≤140737488355328 by
    have h3:=jA List.length G0;rw[hl,ey,LI]at h3;omega)
   have HX:=Qh hP;have NB:=Qh (show(oU (aK s)++[((j0 (aK s) (aK s).length).1,(j0 (aK s) (aK s).length).2)]).length=s.length+1 by
    have h3:=jA List.length G0;rw[hl]at h3;exact h3.symm)
   have Cq:=Qh (show pJ s.length s (1,1)=oU (aK s)++[((j0 (aK s) (aK s).length).1,(j0 (aK s) (aK s).length).2)]from G0);clear hP hl G0 HPA BG;generalize (j0 (aK s) (aK s).length).1=L at *;generalize (j0 (aK s) (aK s).length).2=C at *;go_wp2_with (at_builtin;go_loud (refine iL aih (oU (aK s)) (L,C) HX.o.own HX.o.cL af HFL.o ?_ (hone:=by simp[EP,Value.oneCell'])))
   intro v' w9 hown bP hg hv;obtain⟨a9,c9,rfl,_⟩:=hown.shape;rw[NB.o]at hown;have HO:=Qh hown;have HB:=Qh bP;have aik:(oU (aK s)).length=s.length:=(by have:=NB.o;rw[ey,LI]at this;omega);have Jb:=Qh aik;clear aik;clear hown bP hg hv r0 r1 f0 f1;go_wp2_with fail;exact bB (v:=.slice a9 (s.length+1) c9) (by simp[results,results102,go_sem,Jb.o]) rfl ⟨a9,c9,rfl,by rw[Cq.o];exact HO.o,HB.o⟩
def Eo (v:Value) (no L C:Int):Prop:=(v=dE no∧L=0∧C=0∨v=eH no L C∧0 < L)∧1≤no∧no≤26
def as7 (w:World) (r:qG) (e:Ending) (w':World):Prop:=match r with
 | .bad v=>∃ no L C,e=.returned (.tuple #[.slice none 0 0,.int .i64 no,.agg #[.int .i64 L,.int .i64 C]])∧Below w.heap.size w w'∧Eo v no L C
 | .good l=>∃ a c,e=.returned (.tuple #[.slice a l.length c,.int .i64 0,.agg #[.int .i64 0,.int .i64 0]])∧aG w' w.heap.size 129 4 bZ (.slice a l.length c) l∧Below w.heap.size w w'
structure ER (PL:List (Int×Int)) (w:World) (A:Nat) (pv:Value) (wr:World) (v:Value) (acc:List aw):Prop where
 own:aG wr w.heap.size 129 4 bZ v acc
 pl:aG wr w.heap.size 24 2 EP pv PL
 bk:ai wr A #[.int .i64 0,.int .i64 0]
 far:∀ j,v.ownBlock=some j→A < j
 pa:∀ j,pv.ownBlock=some j→A < j
 cL:Below w.heap.size w wr
 sz:A < wr.heap.size
 low:w.heap.size≤A
theorem ER.below {PL:List (Int×Int)} {w:World} {A:Nat} {pv:Value} {wr w':World} {v:Value} {acc:List aw} (h:ER PL w A pv wr v acc) (hb:Below wr.heap.size wr w'):ER PL w A pv w' v acc:=
 ⟨h.own.keep hb af,h.pl.keep hb af,h.bk.keep hb af,h.far,h.pa,aH h.cL hb af,iH h.sz hb.size,h.low⟩
theorem ER.app {PL:List (Int×Int)} {w:World} {A:Nat} {pv:Value} {wr w1:World} {v v':Value} {acc qd:List aw} (h:ER PL w A pv wr v acc) (ho:aG w1 w.heap.size 129 4 bZ v' qd) (hb:Below w.heap.size w w1) (hg:wr.grownBy w1 v.ownBlock) (hv:∀ k,v'.ownBlock=some k→v.ownBlock=some k∨wr.heap.size≤k):ER PL w A pv w1 v' qd:=by
 have hsz:=h.sz;exact⟨ho,h.pl.other hg (h.own.kind h.pl ah),h.bk.same (hg.block _ hsz (fun e=>by have:=h.far A e.symm;omega)),fun j hj=>PE,h.pa,hb,iH hsz hg.size,h.low⟩
theorem as8 {s:List UInt8} {V:qG} {i:Nat} {acc:List aw} {q:Int×Int} (h:nV s V i acc q):∃ hi:i < (pJ s.length s (1,1)).length,(pJ s.length s (1,1))[i]=q:=by
 have:=h.place;rw[zt]at this;exact this
theorem eN.pos {s:List UInt8} {p q:Int×Int} {n:Nat} (h:eN s p n q) (hp:0 < p.1):0 < q.1:=by
 induction h with
 | zero s p=>exact hp
 | step s p n q hne h ih=>
  apply ih;unfold bW;split
  ·simp only;omega
  ·exact hp
theorem agB (s:List UInt8) :
  (1048576 < s.length∧gB s=.bad (dE 5)∧Hm s=.tuple #[.int .i64 5,.agg #[.int .i64 0,.int .i64 0]]) ∨
  (∃ u:ig,0 < u.line∧gB s=.bad (eH 6 u.line u.ak)∧Hm s=.tuple #[.int .i64 6,.agg #[.int .i64 u.line,.int .i64 u.ak]]) ∨
  (s.length≤1048576∧gB s=fX s.length s 0 (1,1) []∧Hm s=.tuple #[.int .i64 0,.agg #[.int .i64 0,.int .i64 0]]):=by
 unfold gB Hm;by_cases h:1048576 < s.length
 ·rw[if_pos h,if_pos h];exact .inl ⟨h,rfl,rfl⟩
 ·rw[if_neg h,if_neg h];cases hc:tG s with
  | none=>exact .inr (.inr ⟨ae,rfl,rfl⟩)
  | some u=>
   refine .inr (.inl ⟨u,?_,rfl,rfl⟩);have hm:=List.mem_of_find?_eq_some hc;obtain⟨k,hk,rfl⟩:=List.getElem_of_mem hm;have:=VI s k hk;omega
theorem asw (s:List UInt8) (hs:s.length≤9223372036854775807) (w:World) :
  Calls prog 44 #[.string ⟨s.toArray⟩] w (as7 w (gB s)):=by
 have cK:=fun w=>as9 s hs w
 obtain⟨V,hV⟩:∃ V,V=gB s:=⟨_,rfl⟩
 rw[← hV];refine fQ ((aC w.heap.size w).alloc af (.cells #[.int .i64 0,.int .i64 0] 24)) (ai.new w #[.int .i64 0,.int .i64 0] 24) (jW w (.cells #[.int .i64 0,.int .i64 0] 24)) (agB s) ?_;intro dS uq rA aaF;rw[← hV]at aaF;have HC:=Qh aaF;clear hV aaF;go_enter func44,ntmps44
 go_wp2_with fail;generalize w.alloc (.cells #[.int .i64 0,.int .i64 0] 24)=W at *;rcases HC.o with ⟨h1,h2,h3⟩|⟨u,h1,h2,h3⟩|⟨h1,h2,h3⟩
 ·rw[h3]at cK;have HV:=Qh h2;clear HC h1 h2 h3 hs;refine aQ (cK _) ?_;intro w1 hb
  have bX:=Qh ((aH dS.o hb af).alloc (bQ dS.o.size hb.size) (.cells #[.int .i64 5,.int .i64 0] 24));have aM:=Qh ((aH dS.o hb af).alloc (bQ dS.o.size hb.size) (.cells #[.int .i64 0,.int .i64 0] 24));have nM:=(uq.o.keep hb af).alloc (.cells #[.int .i64 0,.int .i64 0] 24);have hk2:=ai.new w1 #[.int .i64 0,.int .i64 0] 24;have hne:w.heap.size≠w1.heap.size:=(by have h9:=rA.o;have h8:=hb.size;omega);clear hb cK bX;obtain⟨r0,r1,f0,f1⟩:=nM.two;obtain⟨t0,t1,g0,g1⟩:=hk2.two;go_wp2_with fail;generalize w1.alloc (.cells #[.int .i64 0,.int .i64 0] 24)=w2 at *;go_still_tail 4,aj
  change wpList _ _ _ _ _ (World.drew _);go_wp2_with fail;exact bB (v:=.tuple #[.slice none 0 0,.int .i64 5,.agg #[.int .i64 0,.int .i64 0]]) PU rfl (by rw[HV.o];exact⟨5,0,0,rfl,(aM.o.drew.setCell (p:=⟨w.heap.size,0,none⟩) af _).setCell (p:=⟨w.heap.size,1,none⟩) af _,.inl ⟨rfl,rfl,rfl⟩,ah,ah⟩)
 ·rw[h3]at cK;have HV:=Qh h2;have QI:=Qh h1;clear HC h1 h2 h3 hs;generalize u.line=L at *;generalize u.ak=C at *;refine aQ (cK _) ?_;intro w1 hb
  have aM:=Qh ((aH dS.o hb af).alloc (bQ dS.o.size hb.size) (.cells #[.int .i64 L,.int .i64 C] 24));have nM:=(uq.o.keep hb af).alloc (.cells #[.int .i64 L,.int .i64 C] 24);have hk2:=ai.new w1 #[.int .i64 L,.int .i64 C] 24;have hne:w.heap.size≠w1.heap.size:=(by have h9:=rA.o;have h8:=hb.size;omega);clear hb cK;obtain⟨r0,r1,f0,f1⟩:=nM.two;obtain⟨t0,t1,g0,g1⟩:=hk2.two;go_wp2_with fail;generalize w1.alloc (.cells #[.int .i64 L,.int .i64 C] 24)=w2 at *;go_still_tail 4,aj
  change wpList _ _ _ _ _ (World.drew _);go_wp2_with fail;exact bB (v:=.tuple #[.slice none 0 0,.int .i64 6,.agg #[.int .i64 L,.int .i64 C]]) PU rfl (by rw[HV.o];exact⟨6,L,C,rfl,(aM.o.drew.setCell (p:=⟨w.heap.size,0,none⟩) af _).setCell (p:=⟨w.heap.size,1,none⟩) af _,.inr ⟨rfl,QI.o⟩,ah,ah⟩)
 ·rw[h3]at cK;have cP:=fun w=>as6 s h1 w
  have hR0:nV s V 0 [] (1,1):=⟨bV _,.zero _ _,by rw[h2];rfl⟩
  refine aY hR0 (aaE s.length s (1,1) af) (show ∀ i acc q,nV s V i acc q→∃ hi:i < (pJ s.length s (1,1)).length,(pJ s.length s (1,1))[i]=q from fun _ _ _ h=>as8 h) ?_;intro HR0 BG Gq;clear HC h2 h3 hs hR0;refine aQ (cK _) ?_;intro w1 hb
  have aM:=Qh ((aH dS.o hb af).alloc (bQ dS.o.size hb.size) (.cells #[.int .i64 0,.int .i64 0] 24));have TJ:=Qh ((uq.o.keep hb af).alloc (.cells #[.int .i64 0,.int .i64 0] 24));have HZ:=Qh (show w.heap.size < (w1.alloc (.cells #[.int .i64 0,.int .i64 0] 24)).heap.size by rw[jW];have h9:=rA.o;have h8:=hb.size;omega);clear hb cK dS uq rA;go_wp2_with fail;generalize w1.alloc (.cells #[.int .i64 0,.int .i64 0] 24)=w2 at *;refine aI (cP _) ?_
  rintro e w3 ⟨a,c,rfl,hop,hb⟩;have hW0:ER (pJ s.length s (1,1)) w w.heap.size (.slice a (s.length+1) c) w3 (.slice none 0 0) []:=
   ⟨aG.nil _ _ _ _ _,hop.fU aM.o.size,TJ.o.keep hb af,(fun j h=>xq),(fun j hj=>by have h1:=(hop.lt j hj).1;have h2:=HZ.o;omega),aH aM.o hb af,iH HZ.o hb.size,af⟩
  have HW0:=Qh hW0;clear hW0 hop hb cP aM TJ HZ;generalize pJ s.length s (1,1)=PL at *;go_wp2_with fail;go_loopw [8,9,10] (fun v x y wr=>∃ (i n:Nat) (acc:List aw) (q:Int×Int),x=.int .i64 (i:Nat)∧y=.int .i64 (n:Nat)∧n≤i∧acc.length≤i∧nV s V i acc q∧ER PL w w.heap.size (.slice a (s.length+1) c) wr v acc) (fun _ x _ _=>s.length - (intOf x).toNat)
  case atStart=>exact⟨0,0,[],(1,1),rfl,rfl,af,af,HR0.o,HW0.o⟩
  case round=>
   clear HR0 HW0;obtain⟨i,n,acc,q,rfl,rfl,hn,Gy,hR,hX⟩:=hrel;obtain⟨hpi,hpq⟩:=Gq.o i acc q hR;have hpl:=hX.pl.sl.2;have HQ:=Qh (hR.hb.pos ah);have HX:=Qh hX;obtain⟨q1,q2⟩:=q;by_cases hlt:(i:Int) < s.length
   ·have a8:i < s.length:=ae;have hnl:(n:Int) < s.length:=ae;have hib:(i:Int) < (s.length:Int)+1:=ae;have av3:(i:Int) < ((s.length+1:Nat):Int):=ae;have av4:i < s.length+1:=ae;have fZ:(⟨s.toArray⟩:ByteArray)[i]'a8 = s[i]:=rfl;have hne:s.drop i≠[]:=(by rw[jq a8];exact List.cons_ne_nil _ _);have dp:=MA (s.drop i) hne;refine fQ (hR.blank a8) (fun (hb:iR s[i].toNat=false) (e:Nat) (ht:gG (s.drop i)=.bad e)=>hR.bad a8 hb ht) (fun (hb:iR s[i].toNat=false) (k:Int) (t:List UInt8) (n:Nat) (ht:gG (s.drop i)=.good k t n)=>hR.good a8 hb ht) (fun w=>ah1 s[i].toNat w) ?_;intro TK nY TL cb
    have c1:=fun w=>asY s i ae a8 w
    have hw:IntKind.i32.wrap (s[i].toNat:Int)=(s[i].toNat:Int):=by
     have:=vP s[i];exact CP
    clear hR hX hne;generalize s[i]=ch at *;cases hb:iR ch.toNat
    ·rw[hb]at cb;cases iJ:gG (s.drop i)with
     | bad e0=>
      rw[iJ]at c1 dp;have HV:=Qh (nY.o hb e0 iJ);have he0:0 < e0∧e0 < 9:=dp;have ge:((e0:Int) != 0)=true:=vH;have c2:∀ w,Calls prog 104 #[.string ⟨s.toArray⟩,.int .i64 (i:Nat)] w fun e w'=>e=.returned (.tuple #[.agg #[.int .i64 0,.string ⟨#[]⟩,.int .i64 0,.int .i64 0],.int .i64 0,.int .i64 (e0:Nat)])∧Below w.heap.size w w':=c1
      clear c1 dp iJ hb TK nY TL hpl;go_wp2_with fail;refine aI (cb _) ?_
      rintro e w4 ⟨rfl,rfl⟩;go_wp2_with fail;refine aQ (c2 _) ?_;intro w5 hb5
      have wB:=Qh ((HX.o.below hb5).below ((aC w5.heap.size w5).alloc af (.cells #[.int .i64 0,.string ⟨#[]⟩,.int .i64 0,.int .i64 0] 129)));obtain⟨bp,op,hap,oh,p0,p1⟩:=aaB wB.o.pl.sl.2 hpi;subst hap;rw[hpq]at p0 p1;obtain⟨r0,r1,f0,f1⟩:=wB.o.bk.two;have av5:w.heap.size≠bp:=(by have:=wB.o.pa bp rfl;omega);clear hb5 c2 cb;go_wp2_with fail;generalize w5.alloc (.cells #[.int .i64 0,.string ⟨#[]⟩,.int .i64 0,.int .i64 0] 129)=w6 at *;go_still_tail 7,aj
      change wpList _ _ _ _ _ (World.drew _);go_wp2_with fail;exact bB (v:=.tuple #[.slice none 0 0,.int .i64 (e0:Nat),.agg #[.int .i64 q1,.int .i64 q2]]) PU rfl (by rw[HV.o];exact⟨(e0:Nat),q1,q2,rfl,(wB.o.cL.drew.setCell (p:=⟨w.heap.size,0,none⟩) af _).setCell (p:=⟨w.heap.size,1,none⟩) af _,.inr ⟨rfl,HQ.o⟩,ae,ae⟩)
     | good kk t m=>
      rw[iJ]at c1 dp;obtain⟨hm1,q',hR2⟩:=TL.o hb kk t m iJ;have gi:=Qh hR2;have BF:i+m≤s.length:=hR2.hk;have c2:∀ w,Calls prog 104 #[.string ⟨s.toArray⟩,.int .i64 (i:Nat)] w fun e w'=>e=.returned (.tuple #[.agg #[.int .i64 kk,.string ⟨t.toArray⟩,.int .i64 0,.int .i64 0],.int .i64 ((i+m:Nat):Int),.int .i64 0])∧Below w.heap.size w w':=c1
      clear c1 dp iJ hb TK nY TL hpl hR2;go_wp2_with fail;refine aI (cb _) ?_
      rintro e w4 ⟨rfl,rfl⟩;go_wp2_with fail;refine aQ (c2 _) ?_;intro w5 hb5
      have TM:=HX.o.below hb5;have HX6:=Qh (TM.below ((aC w5.heap.size w5).alloc af (.cells #[.int .i64 kk,.string ⟨t.toArray⟩,.int .i64 0,.int .i64 0] 129)));have HX7:=Qh (TM.below ((((aC w5.heap.size w5).alloc af (.cells #[.int .i64 kk,.string ⟨t.toArray⟩,.int .i64 0,.int .i64 0] 129)).setCell (p:=⟨w5.heap.size,2,none⟩) af (.int .i64 q1)).setCell (p:=⟨w5.heap.size,3,none⟩) af (.int .i64 q2)));have Jo:=ai.new w5 #[.int .i64 kk,.string ⟨t.toArray⟩,.int .i64 0,.int .i64 0] 129;have Jq:=(Jo.st 2 (.int .i64 q1)).st 3 (.int .i64 q2);obtain⟨bp,op,hap,oh,p0,p1⟩:=aaB HX6.o.pl.sl.2 hpi;subst hap;rw[hpq]at p0 p1;have av6:w5.heap.size≠bp:=(by have:=(TM.pl.lt bp rfl).2;omega);obtain⟨⟨r0,r1,r2,r3⟩,f0,f1,f2,f3⟩:=Jo.four;obtain⟨⟨t0,t1,t2,t3⟩,g0,g1,g2,g3⟩:=(show ai _ w5.heap.size #[.int .i64 kk,.string ⟨t.toArray⟩,.int .i64 q1,.int .i64 q2]from Jq).four;clear hb5 c2 cb TM Jo Jq;have gD:=Qh (jW w5 (.cells #[.int .i64 kk,.string ⟨t.toArray⟩,.int .i64 0,.int .i64 0] 129));go_upto_region 15 with fail
      generalize w5.alloc (.cells #[.int .i64 kk,.string ⟨t.toArray⟩,.int .i64 0,.int .i64 0] 129)=w6 at *;generalize w5.heap.size=T at *;go_wp2_with (at_builtin;go_loud (refine iL Ro acc ⟨kk,t,q1,q2⟩ HX7.o.own HX7.o.cL af ae ?_ (hx:=by rw[World.size_setCell,World.size_setCell,gD.o];rfl) (hone:=by simp[bZ,Value.oneCell'])))
      intro v' w9 hown bP hg hv;have gM:=Qh (HX7.o.app hown bP hg (fun k hk=>by have:=hv k hk;simpa using this));clear hown bP hg hv r0 r1 r2 r3 f0 f1 f2 f3 t0 t1 t2 t3 g0 g1 g2 g3 p0 p1;go_wp2_with fail;go_roundw;case rel=>exact⟨i+m,n+1,_,q',dV,dV,ae,xh,gi.o,gM.o⟩
      case measure=>exact nC
    ·rw[hb]at cb;obtain⟨q',hR2⟩:=TK.o hb;have gi:=Qh hR2;clear c1 dp hb TK nY TL hpl hR2;go_wp2_with fail;refine aI (cb _) ?_
     rintro e w4 ⟨rfl,rfl⟩;go_wp2_with fail;go_roundw;case rel=>exact⟨i+1,n+1,acc,q',dV,dV,ae,ae,gi.o,HX.o⟩
     case measure=>exact nC
   ·have jV:i=s.length:=(by have:=hR.hk;omega);have HV:=Qh (hR.fin jV);obtain⟨bp,op,hap,oh,p0,p1⟩:=aaB hpl hpi;subst hap;rw[hpq]at p0 p1;obtain⟨r0,r1,f0,f1⟩:=hX.bk.two;subst jV;have ail:(acc.length+1)*40≤140737488355328:=ae;have si:=Qh ail;clear hR hX hpl ail;by_cases zS:(n:Int) < s.length;all_goals
     go_wp2_with (at_builtin;go_loud (refine iL Ro acc (qb (q1,q2)) HX.o.own HX.o.cL af si.o ?_ (hone:=by simp[bZ,qb,Value.oneCell'])))
     intro v' w9 hown bP hg hv;have gM:=Qh (HX.o.app hown bP hg hv);obtain⟨a9,c9,rfl,_⟩:=hown.shape;clear hown bP hg hv r0 r1 f0 f1 p0 p1;obtain⟨r0,r1,f0,f1⟩:=gM.o.bk.two;have HO:=Qh ((gM.o.own.Gk (p:=⟨w.heap.size,0,none⟩) (fun j hj=>by have:=gM.o.far j hj;show w.heap.size≠j;omega) (.int .i64 0)).Gk (p:=⟨w.heap.size,1,none⟩) (fun j hj=>by have:=gM.o.far j hj;show w.heap.size≠j;omega) (.int .i64 0));go_wp2_with fail;exact bB (v:=.tuple #[.slice a9 (acc++[qb (q1,q2)]).length c9,.int .i64 0,.agg #[.int .i64 0,.int .i64 0]]) PU rfl (by rw[HV.o];exact⟨a9,c9,rfl,HO.o,(gM.o.cL.setCell (p:=⟨w.heap.size,0,none⟩) af _).setCell (p:=⟨w.heap.size,1,none⟩) af _⟩)
end Go.Proofs.YtfflljgnpfldfaaGreatDoor
