/-
  lex.Scan: contract.
-/
import Derived.Test.YtkblpaabknjckaaGreatDoorLexE
import Derived.Test.YtkblpaabknjckaaGreatDoorBaseC
import Derived.Test.YtkblpaabknjckaaGreatDoorBaseD
set_option maxHeartbeats 128000000
set_option linter.unusedVariables false
namespace Go.Proofs.YtkblpaabknjckaaGreatDoor
open Go.Proofs.Tryz
open Go.RowKit Go.Shelf
inductive TokR where
 | bad (e:Nat)
 | good (k:Int) (t:List UInt8) (n:Nat)
def TokR.val:TokR→Value
 | .bad e=>tokE e
 | .good k t n=>tokG k t n
def textR (s:List UInt8):TokR:=match endQ false 1 (s.drop 1)with
 | none=>.bad 6
 | some i=>match unqL (s.take (i+1))with
  | .bad n=>if n=5 then .bad 5 else .bad 6
  | .good t=>.good 3 t (i+1)
def tokR (s:List UInt8):TokR:=
 if ltU (decL s).1=true then .good 1 (s.take (nameN s)) (nameN s)
 else if (dgU (decL s).1 || sgC (decL s).1 s)=true then (if numN s=0 then .bad 8 else .good 2 (s.take (numN s)) (numN s))
 else if (decL s).1=34 then textR s
 else if sgU (decL s).1=true then .good 4 (s.take 1) 1
 else if ordB s=true then .good 4 (s.take 3) 3 else .bad 7
theorem textR_val (s:List UInt8):textT s=(textR s).val:=by
 unfold textT textF textR;split
 ·rename_i h;rw[h];rfl
 ·rename_i i h
  rw[h];simp only;cases unqL (s.take (i+1))with
  | bad n=>simp only;split<;>rfl
  | good t=>rfl
theorem tokR_val (s:List UInt8):tokT s=(tokR s).val:=by
 unfold tokT tokR;split
 ·rfl
 ·split
  ·split<;>rfl
  ·split
   ·exact textR_val s
   ·split
    ·rfl
    ·split<;>rfl
def TokR.ok (s:List UInt8):TokR→Prop
 | .bad e=>0 < e∧e < 9
 | .good k t n=>n≤s.length∧1≤k∧k≤4
theorem tokR_ok (s:List UInt8) (hne:s≠[]):(tokR s).ok s:=by
 have hpos:0 < s.length:=List.length_pos_iff.2 hne;unfold tokR;split
 ·exact⟨nameN_le s,by decide,by decide⟩
 ·split
  ·split
   ·exact⟨by decide,by decide⟩
   ·exact⟨numN_le s,by decide,by decide⟩
  ·split
   ·unfold textR;split
    ·exact⟨by decide,by decide⟩
    ·rename_i i h
     split
     ·split<;>exact⟨by decide,by decide⟩
     ·exact⟨by have:=endQ_lt _ _ _ _ h;rw[List.length_drop]at this;omega,by decide,by decide⟩
   ·split
    ·exact⟨by omega,by decide,by decide⟩
    ·split
     ·rename_i h
      refine⟨?_,by decide,by decide⟩;rcases Nat.lt_or_ge s.length 3 with h3|h3
      ·exfalso;unfold ordB at h;have hl3:(s.take 3).length < 3:=(by rw[List.length_take];omega);have hb:∀ a b c,(s.take 3 == [a,b,c])=false:=fun a b c=>by
        rw[beq_eq_false_iff_ne];intro e;rw[e]at hl3;simp at hl3
       rw[hb,hb,hb,hb]at h;exact absurd h (by decide)
      ·exact h3
     ·exact⟨by decide,by decide⟩
structure TokD where
 kind:Int
 text:List UInt8
 line:Int
 col:Int
def enTok (t:TokD):List Value:=[.int .i64 t.kind,.string ⟨t.text.toArray⟩,.int .i64 t.line,.int .i64 t.col]
theorem enTok_len (t:TokD):(enTok t).length=4:=rfl
theorem toks_ty:SlTy prog 54 97 4 40:=SlTy.mk' (.agg #[.int .i64 0,.string ⟨#[]⟩,.int .i64 0,.int .i64 0]) underlying54 (by kernel_rfl) rfl (by decide) (by decide)
inductive ScanR where
 | bad (v:Value)
 | good (l:List TokD)
def endTok (p:Int×Int):TokD:=⟨0,[],p.1,p.2⟩
def scanF:Nat→List UInt8→Nat→Int×Int→List TokD→ScanR
 | 0,_,_,p,acc=>.good (acc++[endTok p])
 | f+1,s,skip,p,acc=>
  if s=[] then .good (acc++[endTok p])
  else if skip=0∧blankU (decL s).1=false then
   match tokR s with
   | .bad e=>.bad (faultV (e:Nat) p.1 p.2)
   | .good k t n=>scanF f (s.drop (decL s).2) (n - (decL s).2) (nextP p (decL s).1) (acc++[⟨k,t,p.1,p.2⟩])
  else scanF f (s.drop (decL s).2) (skip - (decL s).2) (nextP p (decL s).1) acc
def scanL (s:List UInt8):ScanR:=
 if 1048576 < s.length then .bad (errV 5) else match checkL s with
  | none=>scanF s.length s 0 (1,1) []
  | some u=>.bad (faultV 6 u.line u.col)
theorem scan_nil (f:Nat) (skip:Nat) (p:Int×Int) (acc:List TokD):scanF f [] skip p acc=.good (acc++[endTok p]):=by
 cases f<;>simp[scanF]
def RetScan (w:World) (r:ScanR) (e:Ending) (w':World):Prop:=match r with
 | .bad v=>e=.returned (.tuple #[.slice none 0 0,v])∧Below w.heap.size w w'
 | .good l=>∃ a c,e=.returned (.tuple #[.slice a l.length c,.nilIface])∧Owns w' w.heap.size 97 4 enTok (.slice a l.length c) l∧Below w.heap.size w w'
theorem Owns.setOther {α:Type} {w:World} {base:Nat} {e:TypeId} {size:Nat} {en:α→List Value} {v:Value} {xs:List α} (h:Owns w base e size en v xs) {p:Addr} (hp:∀ k,v.ownBlock=some k→p.block≠k) (u:Value):Owns (w.setCell p u) base e size en v xs:=by
 refine⟨h.1,?_⟩;rcases h.2 with h0|⟨g,cap,cur,hv,h1,h2,h3⟩
 ·exact .inl h0
 ·refine .inr ⟨g,cap,cur,hv,h1,?_,h3⟩;rw[Below.heap_setCell w p u g (Ne.symm (hp g (by rw[hv];rfl)))];exact h2
theorem checkV_or (s:List UInt8):(checkV s=.nilIface∧s.length≤1048576∧scanL s=scanF s.length s 0 (1,1) [])∨∃ T d,checkV s=.iface T d∧scanL s=.bad (.iface T d):=by
 unfold checkV scanL;split
 ·exact .inr ⟨_,_,rfl,rfl⟩
 ·split
  ·rename_i h;rw[h];exact .inl ⟨rfl,by omega,rfl⟩
  ·rename_i h;rw[h];exact .inr ⟨_,_,rfl,rfl⟩
theorem scan_tok {f:Nat} {s:List UInt8} {sk:Nat} {p:Int×Int} {acc:List TokD} (hne:s≠[]) (h0:sk=0) (hb:blankU (decL s).1=false):scanF (f+1) s sk p acc=match tokR s with
   | .bad e=>.bad (faultV (e:Nat) p.1 p.2)
   | .good k t n=>scanF f (s.drop (decL s).2) (n - (decL s).2) (nextP p (decL s).1) (acc++[⟨k,t,p.1,p.2⟩]):=by
 rw[scanF,if_neg hne,if_pos ⟨h0,hb⟩];all_goals (cases tokR s<;>rfl)
theorem scan_skip {f:Nat} {s:List UInt8} {sk:Nat} {p:Int×Int} {acc:List TokD} (hne:s≠[]) (h:¬ (sk=0∧blankU (decL s).1=false)):scanF (f+1) s sk p acc=scanF f (s.drop (decL s).2) (sk - (decL s).2) (nextP p (decL s).1) acc:=by
 rw[scanF,if_neg hne,if_neg h]
theorem Owns.of_heap {α:Type} {w w':World} {base:Nat} {e:TypeId} {size:Nat} {en:α→List Value} {v:Value} {xs:List α} (h:Owns w base e size en v xs) (hh:∀ k,v.ownBlock=some k→w'.heap[k]? = w.heap[k]?):Owns w' base e size en v xs:=by
 refine⟨h.1,?_⟩;rcases h.2 with h0|⟨g,cap,cur,hv,h1,h2,h3⟩
 ·exact .inl h0
 ·refine .inr ⟨g,cap,cur,hv,h1,?_,h3⟩;rw[hh g (by rw[hv];rfl)];exact h2
structure ScanW (s:List UInt8) (w:World) (A:Nat) (wr:World) (v:Value) (k:Nat) (L C:Int) (acc:List TokD):Prop where
 it:wr.heap[A+1]? = some (.stringIter ⟨s.toArray⟩ k)
 bk:Blk wr A #[.int .i64 L,.int .i64 C]
 own:Owns wr w.heap.size 97 4 enTok v acc
 far:∀ j,v.ownBlock=some j→A+1 < j
 bel:Below w.heap.size w wr
 sz:A+1 < wr.heap.size
 low:w.heap.size≤A
theorem ScanW.below {s:List UInt8} {w:World} {A:Nat} {wr w':World} {v:Value} {k:Nat} {L C:Int} {acc:List TokD} (h:ScanW s w A wr v k L C acc) (hb:Below wr.heap.size wr w'):ScanW s w A w' v k L C acc:=
 ⟨by rw[hb.block _ h.sz];exact h.it,h.bk.keep hb lrf,h.own.keep hb lrf,h.far,bstep h.bel hb lrf,Nat.lt_of_lt_of_le h.sz hb.size,h.low⟩
theorem ScanW.next {s:List UInt8} {w:World} {A:Nat} {wr:World} {v:Value} {k:Nat} {L C:Int} {acc:List TokD} (h:ScanW s w A wr v k L C acc) (k':Nat):ScanW s w A (wr.iterAt (A+1) ⟨s.toArray⟩ k') v k' L C acc:=
 ⟨Lib.iterAt_heap wr (A+1) ⟨s.toArray⟩ k k' h.it,h.bk.same (Lib.iterAt_other _ _ _ _ _ (by omega)),h.own.of_heap (fun j hj=>Lib.iterAt_other _ _ _ _ _ (by have:=h.far j hj;omega)),h.far,
  Lib.below_iterAt h.bel (by have:=h.low;omega) _ _,by rw[Lib.iterAt_size];exact h.sz,h.low⟩
theorem ScanW.store {s:List UInt8} {w:World} {A:Nat} {wr:World} {v:Value} {k:Nat} {L C:Int} {acc:List TokD} (h:ScanW s w A wr v k L C acc) (j:Nat) (u:Value) {L' C':Int} (hc:#[Value.int .i64 L,.int .i64 C].setIfInBounds j u=#[.int .i64 L',.int .i64 C']):ScanW s w A (wr.setCell ⟨A,j,none⟩ u) v k L' C' acc:=
 ⟨by rw[Below.heap_setCell wr ⟨A,j,none⟩ u (A+1) (by show A+1≠A;omega)];exact h.it,by rw[← hc];exact h.bk.st j u,h.own.setOther (fun i hi=>by have:=h.far i hi;show A≠i;omega) u,h.far,
  h.bel.setCell (p:=⟨A,j,none⟩) h.low _,by simpa using h.sz,h.low⟩
theorem ScanW.app {s:List UInt8} {w:World} {A:Nat} {wr w1:World} {v v':Value} {k:Nat} {L C:Int} {acc acc':List TokD} (h:ScanW s w A wr v k L C acc) (ho:Owns w1 w.heap.size 97 4 enTok v' acc') (hb:Below w.heap.size w w1) (hg:wr.grownBy w1 v.ownBlock) (hv:∀ k,v'.ownBlock=some k→v.ownBlock=some k∨wr.heap.size≤k):ScanW s w A w1 v' k L C acc':=by
 have hsz:=h.sz;have hk:∀ i,i < wr.heap.size→i≤A+1→w1.heap[i]? = wr.heap[i]?:=fun i hi hA=>hg.block i hi (fun e=>by have:=h.far i e.symm;omega)
 exact⟨by rw[hk _ hsz lrf];exact h.it,h.bk.same (hk _ (by omega) (by omega)),ho,fun j hj=>by rcases hv j hj with h1|h1;exact h.far j h1;omega,hb,Nat.lt_of_lt_of_le hsz hg.size,h.low⟩
structure ScanI (s:List UInt8) (V:ScanR) (k f u:Nat) (L C:Int) (acc:List TokD):Prop where
 hk:k≤s.length
 hf:s.length≤f+k
 hu:u≤s.length
 hv:V=scanF f (s.drop k) (u - k) (L,C) acc
 l1:1≤L
 l2:L≤(k:Int)+1
 c1:1≤C
 c2:C≤(k:Int)+1
 n:acc.length≤k
theorem ScanI.step {s:List UInt8} {V:ScanR} {k f u:Nat} {L C:Int} {acc:List TokD} (h:ScanI s V k (f+1) u L C acc) {N u':Nat} {L' C':Int} {acc':List TokD} (h1:1≤N) (h2:k+N≤s.length) (h3:u'≤s.length)
  (hv:V=scanF f (s.drop (k+N)) (u' - (k+N)) (L',C') acc') (hl:acc'.length≤acc.length+1) (h4:(L' = L+1∧C' = 1)∨(L' = L∧C' = C+1)):ScanI s V (k+N) f u' L' C' acc':=by
 obtain⟨_,b,_,_,e1,e2,e3,e4,n⟩:=h;refine⟨h2,by omega,h3,hv,?_,?_,?_,?_,by omega⟩<;>rcases h4 with ⟨rfl,rfl⟩|⟨rfl,rfl⟩<;>omega
theorem ScanI.skip {s:List UInt8} {V:ScanR} {k f u:Nat} {L C:Int} {acc:List TokD} (h:ScanI s V k (f+1) u L C acc) (hlt:k < s.length) (hb:¬ (u - k=0∧blankU (decL (s.drop k)).1=false)):V=scanF f (s.drop (k+(decL (s.drop k)).2)) (u - (k+(decL (s.drop k)).2)) (nextP (L,C) (decL (s.drop k)).1) acc:=by
 have hne:s.drop k≠[]:=(by intro h;have:=congrArg List.length h;rw[List.length_drop]at this;simp at this;omega);rw[h.hv,scan_skip hne hb,List.drop_drop,Nat.sub_sub]
theorem ScanI.tok {s:List UInt8} {V:ScanR} {k f u:Nat} {L C:Int} {acc:List TokD} (h:ScanI s V k (f+1) u L C acc) (hlt:k < s.length) (h0:u - k=0) (hb:blankU (decL (s.drop k)).1=false):V=match tokR (s.drop k)with
   | .bad e=>.bad (faultV (e:Nat) L C)
   | .good kk t n=>scanF f (s.drop (k+(decL (s.drop k)).2)) (k+n - (k+(decL (s.drop k)).2)) (nextP (L,C) (decL (s.drop k)).1) (acc++[⟨kk,t,L,C⟩]):=by
 have hne:s.drop k≠[]:=(by intro h;have:=congrArg List.length h;rw[List.length_drop]at this;simp at this;omega);rw[h.hv,scan_tok hne h0 hb];cases tokR (s.drop k)with
 | bad e=>rfl
 | good kk t n=>simp only[List.drop_drop];rw[show k+n - (k+(decL (s.drop k)).2)=n - (decL (s.drop k)).2 by omega]
set_option maxRecDepth 100000 in theorem scan_any (s : List UInt8) (hs : s.length ≤ 9223372036854775807) (w : World) (hT : TabsU w) :
  Calls prog 16 #[.string ⟨s.toArray⟩] w (RetScan w (scanL s)):=by
 have cck:=check_any s (by omega) w;obtain⟨V,hV⟩:∃ V,V=scanL s:=⟨_,rfl⟩
 rw[← hV];rcases checkV_or s with ⟨h1,h2,h3⟩|⟨T,d,h1,h2⟩
 ·have HT:=Qh hT;have HV:=Qh (hV.trans h3);rw[h1]at cck;clear hV h1 h3 hs hT;go_enter func16,ntmps16
  go_wp2_with fail;with_reducible refine(cck).mono ?_
  rintro e w1 ⟨rfl,hb⟩;have hA:=hb.size;have h0:ScanW s w w1.heap.size ((w1.alloc (.cells #[.int .i64 1,.int .i64 1] 29)).iter ⟨s.toArray⟩ 0) (.slice none 0 0) 0 1 1 []:=
   ⟨by have:=World.iter_heap (w1.alloc (.cells #[.int .i64 1,.int .i64 1] 29)) ⟨s.toArray⟩ 0;rwa [World.size_alloc]at this,
    (Blk.new w1 _ _).alloc _,Owns.nil _ _ _ _ _,(fun j h=>by cases h),(hb.alloc hA _).alloc (by simp;omega) _,(by rw[show((w1.alloc (.cells #[.int .i64 1,.int .i64 1] 29)).iter ⟨s.toArray⟩ 0).heap.size=w1.heap.size+1+1 from by simp[World.iter]];omega),hA⟩
  have hI:ScanI s V 0 s.length 0 1 1 []:=⟨Nat.zero_le _,lrf,Nat.zero_le _,HV.out,by decide,by decide,by decide,by decide,lrf⟩
  have HI0:=Qh hI;clear hI;have H0:=Qh h0;clear h0 hb cck HV;go_wp2_with fail;generalize (w1.alloc (.cells #[.int .i64 1,.int .i64 1] 29)).iter ⟨s.toArray⟩ 0=V0 at *;generalize w1.heap.size=A at *;go_loopw [5,7] (fun v un wr=>∃ (k f u:Nat) (L C:Int) (acc:List TokD),un=.int .i64 (u:Nat)∧ScanI s V k f u L C acc∧ScanW s w A wr v k L C acc) (fun _ _ wr=>s.length - wr.iterPos (A+1))
  case atStart=>exact⟨0,s.length,0,1,1,[],rfl,HI0.out,H0.out⟩
  case round=>
   clear H0 HI0;obtain⟨k,f,u,L,C,acc,rfl,hI,hX⟩:=hrel;have HM:=Qh (iterPos_of hX.it:wr.iterPos (A+1)=k);have HI:=Qh hI;by_cases hlt:k < s.length
   ·obtain⟨f,rfl⟩:∃ g,f=g+1:=⟨f - 1,by have:=hI.hf;omega⟩
    have hne:s.drop k≠[]:=(by intro h;have:=congrArg List.length h;rw[List.length_drop]at this;simp at this;omega);have hw:=dec_w (s.drop k);have hw2:=hw.2.2 hne;have hw1:=hw.1;have hit:=hX.it;have hps:k < (⟨s.toArray⟩:ByteArray).size:=hlt;have hnx:∀ ty,(Instr.next (.pointer (some ⟨A+1,0,none⟩)) true ty).run prog wr=_:=fun ty=>Lib.run_next_any_at wr (A+1) ⟨s.toArray⟩ k ty hit hps
    rw[dec_drop]at hnx;have hX2:=hX.next (k+(decL (s.drop k)).2);have hskip:=hI.skip hlt;have htok:=hI.tok hlt;have hstep:=fun (u':Nat) (L' C':Int) (acc':List TokD) (h3:u'≤s.length) (hv:V=scanF f (s.drop (k+(decL (s.drop k)).2)) (u' - (k+(decL (s.drop k)).2)) (L',C') acc') (hl:acc'.length≤acc.length+1) (h4:(L' = L+1∧C' = 1)∨(L' = L∧C' = C+1))=>hI.step (N:=(decL (s.drop k)).2) hw1 (by rw[List.length_drop]at hw2;omega) h3 hv hl h4
    have htk:=fun W hW=>token_any (s.drop k) (by rw[List.length_drop];omega) hne W hW
    have hok:=tokR_ok (s.drop k) hne;rw[List.length_drop]at hw2;have huk:=hI.hu;have hwC:IntKind.i64.wrap (C+1)=C+1:=by
     have h3:=hI.c1;have h4:=hI.c2;unfold IntKind.wrap;simp[IntKind.bits,IntKind.signed];omega
    have hwL:IntKind.i64.wrap (L+1)=L+1:=by
     have h3:=hI.l1;have h4:=hI.l2;unfold IntKind.wrap;simp[IntKind.bits,IntKind.signed];omega
    have hlen:(⟨s.toArray⟩:ByteArray).size=s.length:=rfl;have hext:=ext_from s k (by omega);have hn:=hI.n;rw[tokR_val]at htk;generalize wr.iterAt (A+1) ⟨s.toArray⟩ (k+(decL (s.drop k)).2)=wv at *;generalize decL (s.drop k)=dd at *;obtain⟨R,N⟩:=dd;simp only at hnx hX2 hskip htok hstep htk hw1 hw2;have HX:=Qh hX2;have HSTEP:=Qh hstep;have HSKIP:=Qh hskip;have HTOK:=Qh htok;have HOK:=Qh hok;have HTK:=Qh htk;have HIT:=Qh hX2.it;obtain⟨c0,c1,f0,f1⟩:=hX2.bk.two;clear hX hI hskip htok hstep htk hok hX2 hps hit hne hw;by_cases hu:(u:Int)≤k
    ·by_cases hb:blankU R=true
     ·clear HTOK HTK HOK;have hbk:R=10∨R=32∨R=9∨R=13:=by
       unfold blankU at hb;simp only[Bool.or_eq_true,beq_iff_eq]at hb;omega
      rcases hbk with e|e|e|e
      ·have hb2:=hb;have g1:((R:Int) != 32)=true:=(by rw[e];rfl);have g2:((R:Int) != 9)=true:=(by rw[e];rfl);have g3:((R:Int) != 10)=false:=(by rw[e];rfl);have g4:((R:Int) != 13)=true:=(by rw[e];rfl);have g5:((R:Int) == 10)=true:=(by rw[e];rfl);have HS:=Qh (HSTEP.out u _ _ acc huk (by rw[HSKIP.out (by rw[hb2];rintro⟨_,h⟩;cases h),e];rfl) (by omega) (.inl ⟨rfl,rfl⟩));clear e hb hb2;go_wp2_with fail;go_roundw;case rel=>exact⟨k+N,f,u,L+1,1,acc,rfl,HS.out,((HX.out.store 1 (.int .i64 (C+1)) rfl).store 0 (.int .i64 (L+1)) rfl).store 1 (.int .i64 1) rfl⟩
       case measure=>rw[iterPos_of (((HX.out.store 1 (.int .i64 (C+1)) rfl).store 0 (.int .i64 (L+1)) rfl).store 1 (.int .i64 1) rfl).it,HM.out];omega
      ·have hb2:=hb;have g1:((R:Int) != 32)=false:=(by rw[e];rfl);have g2:((R:Int) != 9)=true:=(by rw[e];rfl);have g3:((R:Int) != 10)=true:=(by rw[e];rfl);have g4:((R:Int) != 13)=true:=(by rw[e];rfl);have g5:((R:Int) == 10)=false:=(by rw[e];rfl);have e10:¬ R=10:=(by omega);have HS:=Qh (HSTEP.out u _ _ acc huk (by rw[HSKIP.out (by rw[hb2];rintro⟨_,h⟩;cases h)];unfold nextP;rw[if_neg e10]) (by omega) (.inr ⟨rfl,rfl⟩));clear e10;clear e hb hb2;go_wp2_with fail;go_roundw;case rel=>exact⟨k+N,f,u,L,C+1,acc,rfl,HS.out,(HX.out.store 1 (.int .i64 (C+1)) rfl)⟩
       case measure=>rw[iterPos_of (HX.out.store 1 (.int .i64 (C+1)) rfl).it,HM.out];omega
      ·have hb2:=hb;have g1:((R:Int) != 32)=true:=(by rw[e];rfl);have g2:((R:Int) != 9)=false:=(by rw[e];rfl);have g3:((R:Int) != 10)=true:=(by rw[e];rfl);have g4:((R:Int) != 13)=true:=(by rw[e];rfl);have g5:((R:Int) == 10)=false:=(by rw[e];rfl);have e10:¬ R=10:=(by omega);have HS:=Qh (HSTEP.out u _ _ acc huk (by rw[HSKIP.out (by rw[hb2];rintro⟨_,h⟩;cases h)];unfold nextP;rw[if_neg e10]) (by omega) (.inr ⟨rfl,rfl⟩));clear e10;clear e hb hb2;go_wp2_with fail;go_roundw;case rel=>exact⟨k+N,f,u,L,C+1,acc,rfl,HS.out,(HX.out.store 1 (.int .i64 (C+1)) rfl)⟩
       case measure=>rw[iterPos_of (HX.out.store 1 (.int .i64 (C+1)) rfl).it,HM.out];omega
      ·have hb2:=hb;have g1:((R:Int) != 32)=true:=(by rw[e];rfl);have g2:((R:Int) != 9)=true:=(by rw[e];rfl);have g3:((R:Int) != 10)=true:=(by rw[e];rfl);have g4:((R:Int) != 13)=false:=(by rw[e];rfl);have g5:((R:Int) == 10)=false:=(by rw[e];rfl);have e10:¬ R=10:=(by omega);have HS:=Qh (HSTEP.out u _ _ acc huk (by rw[HSKIP.out (by rw[hb2];rintro⟨_,h⟩;cases h)];unfold nextP;rw[if_neg e10]) (by omega) (.inr ⟨rfl,rfl⟩));clear e10;clear e hb hb2;go_wp2_with fail;go_roundw;case rel=>exact⟨k+N,f,u,L,C+1,acc,rfl,HS.out,(HX.out.store 1 (.int .i64 (C+1)) rfl)⟩
       case measure=>rw[iterPos_of (HX.out.store 1 (.int .i64 (C+1)) rfl).it,HM.out];omega
     ·have hb2:blankU R=false:=(by simpa using hb);have hbk:R≠32∧R≠9∧R≠10∧R≠13:=by
       unfold blankU at hb;simp only[Bool.or_eq_true,beq_iff_eq,not_or]at hb;exact⟨hb.1.1.1,hb.1.1.2,hb.1.2,hb.2⟩
      obtain⟨e1,e2,e3,e4⟩:=hbk;have g1:((R:Int) != 32)=true:=(by rw[bne_iff_ne];omega);have g2:((R:Int) != 9)=true:=(by rw[bne_iff_ne];omega);have g3:((R:Int) != 10)=true:=(by rw[bne_iff_ne];omega);have g4:((R:Int) != 13)=true:=(by rw[bne_iff_ne];omega);have g5:((R:Int) == 10)=false:=(by rw[beq_eq_false_iff_ne];omega);have hv:=HTOK.out (by omega) hb2;unfold nextP at hv;rw[if_neg e3]at hv;have htk:=HTK.out;have hok:=HOK.out;clear HTOK HTK HOK HSKIP hb hb2 e1 e2 e3 e4;cases htr:tokR (s.drop k)with
      | bad e0=>
       rw[htr]at hv htk hok;have HV:=Qh (hv:V=.bad (faultV (e0:Nat) L C));have ge:((e0:Int) != 0)=true:=(by have h9:0 < e0:=hok.1;rw[bne_iff_ne];omega);unfold TokR.val tokE tokV at htk;simp only at htk;clear htr hv hok HSTEP;go_wp2_with fail;with_reducible refine(htk _ (HT.out.keep HX.out.bel)).mono ?_
       rintro e w5 ⟨rfl,hb⟩;have HX5:=Qh (HX.out.below hb);have hsz5:=HX5.out.sz;have hA5:A < w5.heap.size:=(by omega);clear c0 c1 f0 f1 hb htk;obtain⟨c0,c1,f0,f1⟩:=HX5.out.bk.two;have HEND:=Qh (HX5.out.bel);go_wp2_with fail;go_quiet (fail)
       go_wp2_with fail;exact bodyPost_ret (v:=.tuple #[.slice none 0 0,faultV (e0:Nat) L C]) (by simp[results,results16,go_sem,faultV]) rfl (by rw[HV.out];exact⟨rfl,(HEND.out.alloc HEND.out.size _).trans ⟨rfl,rfl,rfl,lrf,fun _ _=>rfl⟩⟩)
      | good kk t n=>
       rw[htr]at hv htk hok;have HV:=Qh (hv:V=scanF f (s.drop (k+N)) (k+n - (k+N)) (L,C+1) (acc++[⟨kk,t,L,C⟩]));have hn2:n≤s.length - k:=(by have h9:n≤(s.drop k).length:=hok.1;rwa [List.length_drop]at h9);have hwU:IntKind.i64.wrap ((k:Int)+n)=((k+n:Nat):Int):=by
        unfold IntKind.wrap;simp[IntKind.bits,IntKind.signed];omega
       have HS:=Qh (HSTEP.out (k+n) L (C+1) (acc++[⟨kk,t,L,C⟩]) (by omega) HV.out (by simp) (.inr ⟨rfl,rfl⟩));unfold TokR.val tokG tokV at htk;simp only at htk;clear htr hv hok HSTEP;go_wp2_with fail;with_reducible refine(htk _ (HT.out.keep HX.out.bel)).mono ?_
       rintro e w5 ⟨rfl,hb⟩;have HX5:=Qh (HX.out.below hb);have hsz5:=HX5.out.sz;have hA5:A < w5.heap.size:=(by omega);clear c0 c1 f0 f1 hb htk;obtain⟨c0,c1,f0,f1⟩:=HX5.out.bk.two;have HXA:=Qh (HX5.out.below ((Below.refl w5.heap.size w5).alloc lrf (.cells #[.int .i64 kk,.string ⟨t.toArray⟩,.int .i64 L,.int .i64 C] 97)));go_wp2_with (at_builtin;go_loud (refine wpList_append_elem3 toks_ty acc ⟨kk,t,L,C⟩ HXA.out.own HXA.out.bel lrf (by omega) ?_ (hx:=by rw[World.size_alloc];rfl) (hone:=by simp[enTok,Value.oneCell'])))
       intro v' w9 hown hbel hg hv;have HX9:=Qh (HXA.out.app hown hbel hg (by rw[World.size_alloc];exact hv));have hsz9:=HX9.out.sz;clear c0 c1 f0 f1 hown hbel hg hv;obtain⟨c0,c1,f0,f1⟩:=HX9.out.bk.two;go_wp2_with fail;go_roundw;case rel=>exact⟨k+N,f,k+n,L,C+1,acc++[⟨kk,t,L,C⟩],rfl,HS.out,(HX9.out.store 1 (.int .i64 (C+1)) rfl)⟩
       case measure=>rw[iterPos_of (HX9.out.store 1 (.int .i64 (C+1)) rfl).it,HM.out];omega
    ·clear HTOK HTK HOK;by_cases e:R=10
     ·have g5:((R:Int) == 10)=true:=(by rw[e];rfl);have HS:=Qh (HSTEP.out u _ _ acc huk (by rw[HSKIP.out (by intro h;omega),e];rfl) (by omega) (.inl ⟨rfl,rfl⟩));clear e;go_wp2_with fail;go_roundw;case rel=>exact⟨k+N,f,u,L+1,1,acc,rfl,HS.out,((HX.out.store 1 (.int .i64 (C+1)) rfl).store 0 (.int .i64 (L+1)) rfl).store 1 (.int .i64 1) rfl⟩
      case measure=>rw[iterPos_of (((HX.out.store 1 (.int .i64 (C+1)) rfl).store 0 (.int .i64 (L+1)) rfl).store 1 (.int .i64 1) rfl).it,HM.out];omega
     ·have g5:((R:Int) == 10)=false:=(by rw[beq_eq_false_iff_ne];omega);have e10:=e;have HS:=Qh (HSTEP.out u _ _ acc huk (by rw[HSKIP.out (by intro h;omega)];unfold nextP;rw[if_neg e10]) (by omega) (.inr ⟨rfl,rfl⟩));clear e e10;go_wp2_with fail;go_roundw;case rel=>exact⟨k+N,f,u,L,C+1,acc,rfl,HS.out,(HX.out.store 1 (.int .i64 (C+1)) rfl)⟩
      case measure=>rw[iterPos_of (HX.out.store 1 (.int .i64 (C+1)) rfl).it,HM.out];omega
   ·have hks:k=s.length:=(by have:=hI.hk;omega);have HV:=Qh (show V=.good (acc++[endTok (L,C)])by rw[hI.hv,hks,List.drop_length,scan_nil]);have hit:=hX.it;have hps:¬ k < (⟨s.toArray⟩:ByteArray).size:=hlt;have hnx:∀ ty,(Instr.next (.pointer (some ⟨A+1,0,none⟩)) true ty).run prog wr=_:=fun ty=>Lib.run_next_end_at wr (A+1) ⟨s.toArray⟩ k ty hit hps
    have hn:=hI.n;have HX:=Qh hX;obtain⟨c0,c1,f0,f1⟩:=hX.bk.two;have hk2:k≤s.length:=(by omega);clear hps hit hks hX hI HI HM;go_wp2_with (at_builtin;go_loud (refine wpList_append_elem3 toks_ty acc (endTok (L,C)) HX.out.own HX.out.bel lrf (by omega) ?_ (hone:=by simp[enTok,endTok,Value.oneCell'])))
    intro v' w9 hown hbel hg hv;obtain⟨a,c,rfl,_⟩:=hown.shape;have HO:=Qh hown;have HB:=Qh hbel;clear hown hbel hg hv c0 c1 f0 f1;go_wp2_with fail;exact bodyPost_ret (v:=.tuple #[.slice a (acc++[endTok (L,C)]).length c,.nilIface]) (by simp[results,results16,go_sem]) rfl (by rw[HV.out];exact⟨a,c,rfl,HO.out,HB.out⟩)
 ·have HV:=Qh (hV.trans h2);rw[h1]at cck;clear hV h1 h2 hs hT;go_enter func16,ntmps16
  go_wp2_with fail;with_reducible refine(cck).mono ?_
  rintro e w1 ⟨rfl,hb⟩;have HB:=Qh hb;clear hb cck;go_wp2_with fail;exact bodyPost_ret (v:=.tuple #[.slice none 0 0,.iface T d]) (by simp[results,results16,go_sem]) rfl (by rw[HV.out];exact⟨rfl,HB.out⟩)
end Go.Proofs.YtkblpaabknjckaaGreatDoor
