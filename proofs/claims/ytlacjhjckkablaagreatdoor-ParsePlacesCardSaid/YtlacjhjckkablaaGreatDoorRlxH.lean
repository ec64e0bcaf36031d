/-
  The reference of chapter 04: Scan: contract.
-/
import Derived.Test.YtlacjhjckkablaaGreatDoorBaseD
import Derived.Test.YtlacjhjckkablaaGreatDoorRlxF
import Derived.Test.YtlacjhjckkablaaGreatDoorRlxM
import Derived.StillTailTactics
set_option maxHeartbeats 128000000
set_option linter.unusedVariables false
namespace Go.Proofs.YtlacjhjckkablaaGreatDoor
open Go.Proofs.Tryz
open Go.RowKit Go.Shelf
def enPl (p:Int×Int):List Value:=[.int .i64 p.1,.int .i64 p.2]
theorem enPl_len (p:Int×Int):(enPl p).length=2:=rfl
theorem pls_ty:SlTy prog 66 28 2 16:=SlTy.mk' (.agg #[.int .i64 0,.int .i64 0]) underlying66 (by kernel_rfl) rfl (by decide) (by decide)
theorem pl_at {w:World} {a:Option Addr} {cap:Nat} {l:List (Int×Int)} (h:SlOf w enPl 2 a cap l) {k:Nat} (hk:k < l.length) :
  ∃ b o,a=some ⟨b,o,none⟩∧b < w.heap.size∧w.cell? ⟨b,o+k*2,none⟩=some (.int .i64 l[k].1)∧w.cell? ⟨b,o+k*2+1,none⟩=some (.int .i64 l[k].2):=by
 obtain⟨b,o,rfl,hb,hc⟩:=SlOf.cells h enPl_len (by decide) hk;exact⟨b,o,rfl,hb,hc 0 (by decide),by rw[Nat.add_assoc];exact hc 1 (by decide)⟩
def flatU (l:List Unt):List (Int×Int):=l.flatMap fun u=>List.replicate u.wide (u.line,u.col)
def endE (l:List Unt) (p:Int×Int):Int×Int:=l.foldl (fun p u=>nextP p u.rune) p
theorem places_units:∀ (f:Nat) (s:List UInt8) (p:Int×Int),placesF f s p=flatU (unitsF f s p)++[endE (unitsF f s p) p]
 | 0,_,_=>rfl
 | f+1,s,p=>by
  by_cases h0:s=[]
  ·subst h0;rw[places_nil,unitsF_nil];rfl
  ·have e:unitsF (f+1) s p=⟨p.1,p.2,(decL s).1,(decL s).2⟩::unitsF f (s.drop (decL s).2) (nextP p (decL s).1):=by
    show(if s=[] then [] else _)=_;rw[if_neg h0]
   rw[places_step h0,places_units f,e];unfold flatU endE;rw[List.flatMap_cons,List.foldl_cons,List.append_assoc]
theorem plc_end (xs:List Unt):∀ k,k≤xs.length→plcU xs k=endE (xs.take k) (1,1)
 | 0,_=>rfl
 | k+1,hk=>by
  show nextP (plcU xs k) ((xs[k]?.map Unt.rune).getD 0)=_;rw[plc_end xs k (by omega),List.take_succ_eq_append_getElem (by omega),List.getElem?_eq_getElem (by omega)];unfold endE;rw[List.foldl_append];rfl
theorem places_all (s:List UInt8):placesF s.length s (1,1)=flatU (unitsL s)++[plcU (unitsL s) (unitsL s).length]:=by
 rw[places_units,plc_end _ _ lrf,List.take_length];rfl
theorem flatU_len (l:List Unt):(flatU l).length=(l.map Unt.wide).sum:=by
 unfold flatU
 induction l with
 | nil=>rfl
 | cons u l ih=>rw[List.flatMap_cons,List.length_append,ih,List.length_replicate,List.map_cons,List.sum_cons]
theorem flatU_succ (l:List Unt) (k:Nat) (hk:k < l.length):flatU (l.take (k+1))=flatU (l.take k)++List.replicate l[k].wide (l[k].line,l[k].col):=by
 unfold flatU;rw[List.take_succ_eq_append_getElem hk,List.flatMap_append,List.flatMap_cons,List.flatMap_nil,List.append_nil]
theorem posU_le (s:List UInt8) (k:Nat):posU (unitsL s) k≤s.length:=by
 have h:=units_all_f s.length s (1,1) lrf;have h2:posU (unitsL s) (unitsL s).length=s.length:=h;rw[← h2];unfold posU;rw[List.take_length]
 conv=>rhs;rw[← List.take_append_drop k (unitsL s)]
 rw[List.map_append,List.sum_append];omega
theorem flat_le (s:List UInt8) (k:Nat) (hk:k < (unitsL s).length):(flatU ((unitsL s).take k)).length+(unitsL s)[k].wide≤s.length:=by
 have h:=posU_le s (k+1);rw[posU_succ _ _ hk]at h;unfold posU at h;rw[flatU_len];exact h
structure PlW (U:List Unt) (w:World) (A:Nat) (uv:Value) (wr:World) (v:Value) (acc:List (Int×Int)) (L C:Int):Prop where
 own:Owns wr w.heap.size 28 2 enPl v acc
 us:Owns wr w.heap.size 246 5 enUnt uv U
 bk:Blk wr A #[.int .i64 L,.int .i64 C]
 far:∀ j,v.ownBlock=some j→A < j
 ua:∀ j,uv.ownBlock=some j→j < A
 bel:Below w.heap.size w wr
 sz:A < wr.heap.size
 low:w.heap.size≤A
theorem PlW.below {U:List Unt} {w:World} {A:Nat} {uv:Value} {wr w':World} {v:Value} {acc:List (Int×Int)} {L C:Int} (h:PlW U w A uv wr v acc L C) (hb:Below wr.heap.size wr w'):PlW U w A uv w' v acc L C:=
 ⟨h.own.keep hb lrf,h.us.keep hb lrf,h.bk.keep hb lrf,h.far,h.ua,bstep h.bel hb lrf,Nat.lt_of_lt_of_le h.sz hb.size,h.low⟩
theorem PlW.drew {U:List Unt} {w:World} {A:Nat} {uv:Value} {wr:World} {v:Value} {acc:List (Int×Int)} {L C:Int} (h:PlW U w A uv wr v acc L C):PlW U w A uv wr.drew v acc L C:=h.below (Below.refl _ _).drew
theorem PlW.store {U:List Unt} {w:World} {A:Nat} {uv:Value} {wr:World} {v:Value} {acc:List (Int×Int)} {L C:Int} (h:PlW U w A uv wr v acc L C) (L' C':Int):PlW U w A uv ((wr.setCell ⟨A,0,none⟩ (.int .i64 L')).setCell ⟨A,1,none⟩ (.int .i64 C')) v acc L' C':=
 ⟨(h.own.setOther (p:=⟨A,0,none⟩) (fun i hi=>by have:=h.far i hi;show A≠i;omega) _).setOther (p:=⟨A,1,none⟩) (fun i hi=>by have:=h.far i hi;show A≠i;omega) _,
  (h.us.setOther (p:=⟨A,0,none⟩) (fun i hi=>by have:=h.ua i hi;show A≠i;omega) _).setOther (p:=⟨A,1,none⟩) (fun i hi=>by have:=h.ua i hi;show A≠i;omega) _,
  (h.bk.st 0 _).st 1 _,h.far,h.ua,(h.bel.setCell (p:=⟨A,0,none⟩) h.low _).setCell (p:=⟨A,1,none⟩) h.low _,by simpa using h.sz,h.low⟩
theorem PlW.app {U:List Unt} {w:World} {A:Nat} {uv:Value} {wr w1:World} {v v':Value} {acc acc':List (Int×Int)} {L C:Int} (h:PlW U w A uv wr v acc L C) (ho:Owns w1 w.heap.size 28 2 enPl v' acc') (hb:Below w.heap.size w w1) (hg:wr.grownBy w1 v.ownBlock) (hv:∀ k,v'.ownBlock=some k→v.ownBlock=some k∨wr.heap.size≤k):PlW U w A uv w1 v' acc' L C:=by
 have hsz:=h.sz;exact⟨ho,h.us.other hg (h.own.kind h.us (by decide)),h.bk.same (hg.block _ hsz (fun e=>by have:=h.far A e.symm;omega)),fun j hj=>by rcases hv j hj with h1|h1;exact h.far j h1;omega,h.ua,hb,Nat.lt_of_lt_of_le hsz hg.size,h.low⟩
set_option maxRecDepth 100000 in theorem places4_any (s : List UInt8) (hs : s.length ≤ 1048576) (w : World) :
  Calls prog 79 #[.string ⟨s.toArray⟩] w fun e w'=>∃ a c,e=.returned (.slice a (s.length+1) c)∧Owns w' w.heap.size 28 2 enPl (.slice a (s.length+1) c) (placesF s.length s (1,1))∧Below w.heap.size w w':=by
 have cU:=fun w=>units_any s (by omega) w
 have hul:=unts_len s;have HPA:=Qh (places_all s);have HPL:=Qh (places_len s.length s (1,1) lrf);have hun:(unitsL s).length≤1048576:=(by omega);go_enter func79,ntmps79
 go_wp2_with fail;with_reducible refine(cU _).mono ?_
 rintro e w1 ⟨a,c,rfl,ho,hb⟩;have h0:PlW (unitsL s) w w1.heap.size (.slice a (unitsL s).length c) (w1.alloc (.cells #[.int .i64 1,.int .i64 1] 28)) (.slice none 0 0) [] 1 1:=
  ⟨Owns.nil _ _ _ _ _,ho.alloc _,Blk.new _ _ _,(fun j h=>by cases h),(fun j hj=>(ho.lt j hj).2),hb.alloc hb.size _,(by rw[World.size_alloc];omega),hb.size⟩
 have H0:=Qh h0;clear h0 ho hb cU;go_wp2_with fail;generalize w1.alloc (.cells #[.int .i64 1,.int .i64 1] 28)=W at *;go_loopw [3,6] (fun v x wr=>∃ (j:Nat),x=.int .i64 (j:Nat)∧j≤(unitsL s).length∧PlW (unitsL s) w w1.heap.size (.slice a (unitsL s).length c) wr v (flatU ((unitsL s).take j)) (plcU (unitsL s) j).1 (plcU (unitsL s) j).2) (fun _ x _=>(unitsL s).length - (intOf x).toNat)
 case atStart=>exact⟨0,rfl,Nat.zero_le _,H0.out⟩
 case round=>
  clear H0;obtain⟨j,rfl,hj,hP⟩:=hrel;by_cases hlt:(j:Int) < (unitsL s).length
  ·have hlt':j < (unitsL s).length:=(by omega);obtain⟨hp1,hp2⟩:=plc_at s j hlt';have hfl:=flat_le s j hlt';have hfs:=flatU_succ (unitsL s) j hlt';have hnx:plcU (unitsL s) (j+1)=nextP (plcU (unitsL s) j) (unitsL s)[j].rune:=by
    show nextP (plcU (unitsL s) j) (((unitsL s)[j]?.map Unt.rune).getD 0)=_;rw[List.getElem?_eq_getElem hlt'];rfl
   have hbd:=unit_bd s j hlt';obtain⟨bu,ou,hau,hbu,e0,e1,e2,e3,e4⟩:=unt_at hP.us.sl.2 hlt';subst hau;have hwide:(unitsL s)[j].wide≤1048576:=(by omega);have hPL:=hP.sz;have hplc:plcU (unitsL s) j=((unitsL s)[j].line,(unitsL s)[j].col):=(by rw[hp1,hp2]);rw[← hp1,← hp2]at hP;rw[hplc]at hnx;have HNX:=Qh hnx;have HFS:=Qh hfs;have HP:=Qh hP;clear hp1 hp2 hplc hnx hfs hP hbu;go_wp2_with fail;go_loopw [3,7] (fun v x wr=>∃ (m:Nat),x=.int .i64 (m:Nat)∧m≤(unitsL s)[j].wide∧PlW (unitsL s) w w1.heap.size (.slice (some ⟨bu,ou,none⟩) (unitsL s).length c) wr v (flatU ((unitsL s).take j)++List.replicate m ((unitsL s)[j].line,(unitsL s)[j].col)) (unitsL s)[j].line (unitsL s)[j].col) (fun _ x _=>(unitsL s)[j].wide - (intOf x).toNat)
   case atStart=>exact⟨0,rfl,Nat.zero_le _,by rw[List.replicate_zero,List.append_nil];exact HP.out⟩
   case round=>
    clear HP e0 e1 e2 e3 e4 hPL;obtain⟨m,rfl,hm,hP⟩:=hrel;obtain⟨bu',ou',hau,hbu,e0,e1,e2,e3,e4⟩:=unt_at hP.us.sl.2 hlt';cases hau
    have HP:=Qh hP;by_cases hmw:(m:Int) < (unitsL s)[j].wide
    ·have hbound:((flatU ((unitsL s).take j)++List.replicate m ((unitsL s)[j].line,(unitsL s)[j].col)).length+1)*16≤140737488355328:=by
      rw[List.length_append,List.length_replicate];omega
     have HBD:=Qh hbound;have HRS:=Qh (show flatU ((unitsL s).take j)++List.replicate (m+1) ((unitsL s)[j].line,(unitsL s)[j].col)=(flatU ((unitsL s).take j)++List.replicate m ((unitsL s)[j].line,(unitsL s)[j].col))++[((unitsL s)[j].line,(unitsL s)[j].col)]by
      rw[List.replicate_succ',List.append_assoc])
     clear hP hbound HNX HFS;generalize (unitsL s)[j].line=L at *;generalize (unitsL s)[j].col=C at *;generalize (unitsL s)[j].wide=N at *;generalize flatU ((unitsL s).take j)++List.replicate m (L,C)=acc at *;go_wp2_with (at_builtin;go_loud (refine wpList_append_elem3 pls_ty acc (L,C) HP.out.own HP.out.bel lrf HBD.out ?_ (hone:=by simp[enPl,Value.oneCell'])))
     intro v' w9 hown hbel hg hv;have HX9:=Qh (HP.out.app hown hbel hg hv);clear hown hbel hg hv;go_wp2_with fail;go_roundw;case rel=>exact⟨m+1,by first|rfl|go_num,by omega,by rw[HRS.out];exact HX9.out⟩
     case measure=>(simp[intOf]<;>omega)
    ·obtain rfl:m=(unitsL s)[j].wide:=by omega
     rw[← HFS.out]at HP;have hwC:IntKind.i64.wrap ((unitsL s)[j].col+1)=(unitsL s)[j].col+1:=by
      unfold IntKind.wrap;simp[IntKind.bits,IntKind.signed];omega
     have hwL:IntKind.i64.wrap ((unitsL s)[j].line+1)=(unitsL s)[j].line+1:=by
      unfold IntKind.wrap;simp[IntKind.bits,IntKind.signed];omega
     have hnx:=HNX.out;unfold nextP at hnx;clear hP HNX HFS hbd;generalize (unitsL s)[j].line=L at *;generalize (unitsL s)[j].col=C at *;have HST:=Qh (HP.out.drew.store L (C+1));obtain⟨r0,r1,f0,f1⟩:=HP.out.drew.bk.two;obtain⟨t0,t1,g0,g1⟩:=HST.out.bk.two;have hal:w1.heap.size≠bu:=(by have:=HP.out.ua bu rfl;omega);have hal2:bu≠w1.heap.size:=fun e=>hal e.symm
     have d0:wr.drew.cell? ⟨bu,ou+j*5,none⟩=_:=e0;have d2:wr.drew.cell? ⟨bu,ou+j*5+2,none⟩=_:=e2;by_cases hR:(unitsL s)[j].rune=10
     ·rw[if_pos hR]at hnx;have gR:(((unitsL s)[j].rune:Int) == 10)=true:=(by rw[hR];rfl);have HS2:=Qh (HST.out.store (L+1) 1);have HNX:=Qh hnx;clear hR hnx;generalize (unitsL s)[j].rune=R at *;go_wp2_with fail;go_still_tail 14,(by kernel_rfl)
      change wpList _ _ _ _ _ (World.drew _);generalize wr.drew=wd at *;go_wp2_with fail;go_roundw;case rel=>exact⟨j+1,by first|rfl|go_num,by omega,by rw[HNX.out];exact HS2.out⟩
      case measure=>(simp[intOf]<;>omega)
     ·rw[if_neg hR]at hnx;have gR:(((unitsL s)[j].rune:Int) == 10)=false:=(by rw[beq_eq_false_iff_ne];omega);have HNX:=Qh hnx;clear hR hnx;generalize (unitsL s)[j].rune=R at *;go_wp2_with fail;go_still_tail 14,(by kernel_rfl)
      change wpList _ _ _ _ _ (World.drew _);generalize wr.drew=wd at *;go_wp2_with fail;go_roundw;case rel=>exact⟨j+1,by first|rfl|go_num,by omega,by rw[HNX.out];exact HST.out⟩
      case measure=>(simp[intOf]<;>omega)
  ·obtain rfl:j=(unitsL s).length:=by omega
   rw[List.take_length]at hP;obtain⟨r0,r1,f0,f1⟩:=hP.bk.two;have hl:=HPL.out;have hpa:=HPA.out;have HFL:=Qh (show((flatU (unitsL s)).length+1)*16≤140737488355328 by
    have h3:=congrArg List.length hpa;rw[hl,List.length_append,List.length_singleton]at h3;omega)
   have HX:=Qh hP;have HLL:=Qh (show(flatU (unitsL s)++[((plcU (unitsL s) (unitsL s).length).1,(plcU (unitsL s) (unitsL s).length).2)]).length=s.length+1 by
    have h3:=congrArg List.length hpa;rw[hl]at h3;exact h3.symm)
   have HP3:=Qh (show placesF s.length s (1,1)=flatU (unitsL s)++[((plcU (unitsL s) (unitsL s).length).1,(plcU (unitsL s) (unitsL s).length).2)]from hpa);clear hP hl hpa HPA HPL;generalize (plcU (unitsL s) (unitsL s).length).1=L at *;generalize (plcU (unitsL s) (unitsL s).length).2=C at *;go_wp2_with (at_builtin;go_loud (refine wpList_append_elem3 pls_ty (flatU (unitsL s)) (L,C) HX.out.own HX.out.bel lrf HFL.out ?_ (hone:=by simp[enPl,Value.oneCell'])))
   intro v' w9 hown hbel hg hv;obtain⟨a9,c9,rfl,_⟩:=hown.shape;rw[HLL.out]at hown;have HO:=Qh hown;have HB:=Qh hbel;have hlen2:(flatU (unitsL s)).length=s.length:=(by have:=HLL.out;rw[List.length_append,List.length_singleton]at this;omega);have HL2:=Qh hlen2;clear hlen2;clear hown hbel hg hv r0 r1 f0 f1;go_wp2_with fail;exact bodyPost_ret (v:=.slice a9 (s.length+1) c9) (by simp[results,results79,go_sem,HL2.out]) rfl ⟨a9,c9,rfl,by rw[HP3.out];exact HO.out,HB.out⟩
def ErrAt (v:Value) (no L C:Int):Prop:=(v=errV no∧L=0∧C=0∨v=faultV no L C∧0 < L)∧1≤no∧no≤26
def RetRef (w:World) (r:ScanR) (e:Ending) (w':World):Prop:=match r with
 | .bad v=>∃ no L C,e=.returned (.tuple #[.slice none 0 0,.int .i64 no,.agg #[.int .i64 L,.int .i64 C]])∧Below w.heap.size w w'∧ErrAt v no L C
 | .good l=>∃ a c,e=.returned (.tuple #[.slice a l.length c,.int .i64 0,.agg #[.int .i64 0,.int .i64 0]])∧Owns w' w.heap.size 103 4 enTok (.slice a l.length c) l∧Below w.heap.size w w'
structure ScW (PL:List (Int×Int)) (w:World) (A:Nat) (pv:Value) (wr:World) (v:Value) (acc:List TokD):Prop where
 own:Owns wr w.heap.size 103 4 enTok v acc
 pl:Owns wr w.heap.size 28 2 enPl pv PL
 bk:Blk wr A #[.int .i64 0,.int .i64 0]
 far:∀ j,v.ownBlock=some j→A < j
 pa:∀ j,pv.ownBlock=some j→A < j
 bel:Below w.heap.size w wr
 sz:A < wr.heap.size
 low:w.heap.size≤A
theorem ScW.below {PL:List (Int×Int)} {w:World} {A:Nat} {pv:Value} {wr w':World} {v:Value} {acc:List TokD} (h:ScW PL w A pv wr v acc) (hb:Below wr.heap.size wr w'):ScW PL w A pv w' v acc:=
 ⟨h.own.keep hb lrf,h.pl.keep hb lrf,h.bk.keep hb lrf,h.far,h.pa,bstep h.bel hb lrf,Nat.lt_of_lt_of_le h.sz hb.size,h.low⟩
theorem ScW.app {PL:List (Int×Int)} {w:World} {A:Nat} {pv:Value} {wr w1:World} {v v':Value} {acc acc':List TokD} (h:ScW PL w A pv wr v acc) (ho:Owns w1 w.heap.size 103 4 enTok v' acc') (hb:Below w.heap.size w w1) (hg:wr.grownBy w1 v.ownBlock) (hv:∀ k,v'.ownBlock=some k→v.ownBlock=some k∨wr.heap.size≤k):ScW PL w A pv w1 v' acc':=by
 have hsz:=h.sz;exact⟨ho,h.pl.other hg (h.own.kind h.pl (by decide)),h.bk.same (hg.block _ hsz (fun e=>by have:=h.far A e.symm;omega)),fun j hj=>by rcases hv j hj with h1|h1;exact h.far j h1;omega,h.pa,hb,Nat.lt_of_lt_of_le hsz hg.size,h.low⟩
theorem scan_place {s:List UInt8} {V:ScanR} {i:Nat} {acc:List TokD} {q:Int×Int} (h:RefI s V i acc q):∃ hi:i < (placesF s.length s (1,1)).length,(placesF s.length s (1,1))[i]=q:=by
 have:=h.place;rw[List.getElem?_eq_some_iff]at this;exact this
theorem Bnd.pos {s:List UInt8} {p q:Int×Int} {n:Nat} (h:Bnd s p n q) (hp:0 < p.1):0 < q.1:=by
 induction h with
 | zero s p=>exact hp
 | step s p n q hne h ih=>
  apply ih;unfold nextP;split
  ·simp only;omega
  ·exact hp
theorem scan_plain_cases (s:List UInt8) :
  (1048576 < s.length∧scanL s=.bad (errV 5)∧chk3V s=.tuple #[.int .i64 5,.agg #[.int .i64 0,.int .i64 0]]) ∨
  (∃ u:Unt,0 < u.line∧scanL s=.bad (faultV 6 u.line u.col)∧chk3V s=.tuple #[.int .i64 6,.agg #[.int .i64 u.line,.int .i64 u.col]]) ∨
  (s.length≤1048576∧scanL s=scanF s.length s 0 (1,1) []∧chk3V s=.tuple #[.int .i64 0,.agg #[.int .i64 0,.int .i64 0]]):=by
 unfold scanL chk3V;by_cases h:1048576 < s.length
 ·rw[if_pos h,if_pos h];exact .inl ⟨h,rfl,rfl⟩
 ·rw[if_neg h,if_neg h];cases hc:checkL s with
  | none=>exact .inr (.inr ⟨by omega,rfl,rfl⟩)
  | some u=>
   refine .inr (.inl ⟨u,?_,rfl,rfl⟩);have hm:=List.mem_of_find?_eq_some hc;obtain⟨k,hk,rfl⟩:=List.getElem_of_mem hm;have:=unit_bd s k hk;omega
set_option maxRecDepth 100000 in theorem scan4_any (s : List UInt8) (hs : s.length ≤ 9223372036854775807) (w : World) :
  Calls prog 21 #[.string ⟨s.toArray⟩] w (RetRef w (scanL s)):=by
 have cK:=fun w=>check3_any s hs w
 obtain⟨V,hV⟩:∃ V,V=scanL s:=⟨_,rfl⟩
 rw[← hV];have HB0:=Qh ((Below.refl w.heap.size w).alloc lrf (.cells #[.int .i64 0,.int .i64 0] 28));have HK0:=Qh (Blk.new w #[.int .i64 0,.int .i64 0] 28);have HS0:=Qh (World.size_alloc w (.cells #[.int .i64 0,.int .i64 0] 28));have hcases:=scan_plain_cases s;rw[← hV]at hcases;have HC:=Qh hcases;clear hV hcases;go_enter func21,ntmps21
 go_wp2_with fail;generalize w.alloc (.cells #[.int .i64 0,.int .i64 0] 28)=W at *;rcases HC.out with ⟨h1,h2,h3⟩|⟨u,h1,h2,h3⟩|⟨h1,h2,h3⟩
 ·rw[h3]at cK;have HV:=Qh h2;clear HC h1 h2 h3 hs;with_reducible refine(cK _).mono ?_
  rintro e w1 ⟨rfl,hb⟩;have HB1:=Qh ((bstep HB0.out hb lrf).alloc (Nat.le_trans HB0.out.size hb.size) (.cells #[.int .i64 5,.int .i64 0] 28));have HB2:=Qh ((bstep HB0.out hb lrf).alloc (Nat.le_trans HB0.out.size hb.size) (.cells #[.int .i64 0,.int .i64 0] 28));have hk1:=(HK0.out.keep hb lrf).alloc (.cells #[.int .i64 0,.int .i64 0] 28);have hk2:=Blk.new w1 #[.int .i64 0,.int .i64 0] 28;have hne:w.heap.size≠w1.heap.size:=(by have h9:=HS0.out;have h8:=hb.size;omega);clear hb cK HB1;obtain⟨r0,r1,f0,f1⟩:=hk1.two;obtain⟨t0,t1,g0,g1⟩:=hk2.two;go_wp2_with fail;generalize w1.alloc (.cells #[.int .i64 0,.int .i64 0] 28)=w2 at *;go_still_tail 4,(by kernel_rfl)
  change wpList _ _ _ _ _ (World.drew _);go_wp2_with fail;exact bodyPost_ret (v:=.tuple #[.slice none 0 0,.int .i64 5,.agg #[.int .i64 0,.int .i64 0]]) (by simp[results,results21,go_sem,r0,r1]) rfl (by rw[HV.out];exact⟨5,0,0,rfl,(HB2.out.drew.setCell (p:=⟨w.heap.size,0,none⟩) lrf _).setCell (p:=⟨w.heap.size,1,none⟩) lrf _,.inl ⟨rfl,rfl,rfl⟩,by decide,by decide⟩)
 ·rw[h3]at cK;have HV:=Qh h2;have HPOS:=Qh h1;clear HC h1 h2 h3 hs;generalize u.line=L at *;generalize u.col=C at *;with_reducible refine(cK _).mono ?_
  rintro e w1 ⟨rfl,hb⟩;have HB2:=Qh ((bstep HB0.out hb lrf).alloc (Nat.le_trans HB0.out.size hb.size) (.cells #[.int .i64 L,.int .i64 C] 28));have hk1:=(HK0.out.keep hb lrf).alloc (.cells #[.int .i64 L,.int .i64 C] 28);have hk2:=Blk.new w1 #[.int .i64 L,.int .i64 C] 28;have hne:w.heap.size≠w1.heap.size:=(by have h9:=HS0.out;have h8:=hb.size;omega);clear hb cK;obtain⟨r0,r1,f0,f1⟩:=hk1.two;obtain⟨t0,t1,g0,g1⟩:=hk2.two;go_wp2_with fail;generalize w1.alloc (.cells #[.int .i64 L,.int .i64 C] 28)=w2 at *;go_still_tail 4,(by kernel_rfl)
  change wpList _ _ _ _ _ (World.drew _);go_wp2_with fail;exact bodyPost_ret (v:=.tuple #[.slice none 0 0,.int .i64 6,.agg #[.int .i64 L,.int .i64 C]]) (by simp[results,results21,go_sem,r0,r1]) rfl (by rw[HV.out];exact⟨6,L,C,rfl,(HB2.out.drew.setCell (p:=⟨w.heap.size,0,none⟩) lrf _).setCell (p:=⟨w.heap.size,1,none⟩) lrf _,.inr ⟨rfl,HPOS.out⟩,by decide,by decide⟩)
 ·rw[h3]at cK;have cP:=fun w=>places4_any s h1 w
  have hR0:RefI s V 0 [] (1,1):=⟨Nat.zero_le _,.zero _ _,by rw[h2];rfl⟩
  have HR0:=Qh hR0;have HPL:=Qh (places_len s.length s (1,1) lrf);have HSP:=Qh (show ∀ i acc q,RefI s V i acc q→∃ hi:i < (placesF s.length s (1,1)).length,(placesF s.length s (1,1))[i]=q from fun _ _ _ h=>scan_place h);clear HC h2 h3 hs hR0;with_reducible refine(cK _).mono ?_
  rintro e w1 ⟨rfl,hb⟩;have HB2:=Qh ((bstep HB0.out hb lrf).alloc (Nat.le_trans HB0.out.size hb.size) (.cells #[.int .i64 0,.int .i64 0] 28));have HK1:=Qh ((HK0.out.keep hb lrf).alloc (.cells #[.int .i64 0,.int .i64 0] 28));have HZ:=Qh (show w.heap.size < (w1.alloc (.cells #[.int .i64 0,.int .i64 0] 28)).heap.size by rw[World.size_alloc];have h9:=HS0.out;have h8:=hb.size;omega);clear hb cK HB0 HK0 HS0;go_wp2_with fail;generalize w1.alloc (.cells #[.int .i64 0,.int .i64 0] 28)=w2 at *;with_reducible refine(cP _).mono ?_
  rintro e w3 ⟨a,c,rfl,hop,hb⟩;have hW0:ScW (placesF s.length s (1,1)) w w.heap.size (.slice a (s.length+1) c) w3 (.slice none 0 0) []:=
   ⟨Owns.nil _ _ _ _ _,hop.fromBase HB2.out.size,HK1.out.keep hb lrf,(fun j h=>by cases h),(fun j hj=>by have h1:=(hop.lt j hj).1;have h2:=HZ.out;omega),bstep HB2.out hb lrf,Nat.lt_of_lt_of_le HZ.out hb.size,lrf⟩
  have HW0:=Qh hW0;clear hW0 hop hb cP HB2 HK1 HZ;generalize placesF s.length s (1,1)=PL at *;go_wp2_with fail;go_loopw [8,9,10] (fun v x y wr=>∃ (i n:Nat) (acc:List TokD) (q:Int×Int),x=.int .i64 (i:Nat)∧y=.int .i64 (n:Nat)∧n≤i∧acc.length≤i∧RefI s V i acc q∧ScW PL w w.heap.size (.slice a (s.length+1) c) wr v acc) (fun _ x _ _=>s.length - (intOf x).toNat)
  case atStart=>exact⟨0,0,[],(1,1),rfl,rfl,lrf,lrf,HR0.out,HW0.out⟩
  case round=>
   clear HR0 HW0;obtain⟨i,n,acc,q,rfl,rfl,hn,hal,hR,hX⟩:=hrel;obtain⟨hpi,hpq⟩:=HSP.out i acc q hR;have hpl:=hX.pl.sl.2;have HQ:=Qh (hR.hb.pos (by decide));have HX:=Qh hX;obtain⟨q1,q2⟩:=q;by_cases hlt:(i:Int) < s.length
   ·have hlt':i < s.length:=(by omega);have hnl:(n:Int) < s.length:=(by omega);have hib:(i:Int) < (s.length:Int)+1:=(by omega);have hib2:(i:Int) < ((s.length+1:Nat):Int):=(by omega);have hib3:i < s.length+1:=(by omega);have hget:(⟨s.toArray⟩:ByteArray)[i]'hlt' = s[i]:=rfl;have hne:s.drop i≠[]:=(by rw[List.drop_eq_getElem_cons hlt'];exact List.cons_ne_nil _ _);have hok:=tokR_ok (s.drop i) hne;have HBL:=Qh (hR.blank hlt');have HBD:=Qh (fun (hb:blankU s[i].toNat=false) (e:Nat) (ht:tokR (s.drop i)=.bad e)=>hR.bad hlt' hb ht);have HGD:=Qh (fun (hb:blankU s[i].toNat=false) (k:Int) (t:List UInt8) (n:Nat) (ht:tokR (s.drop i)=.good k t n)=>hR.good hlt' hb ht);have cb:=fun w=>blank3_any s[i].toNat w
    have c1:=fun w=>one4_any s i (by omega) hlt' w
    have hw:IntKind.i32.wrap (s[i].toNat:Int)=(s[i].toNat:Int):=by
     have:=UInt8.toNat_lt s[i];unfold IntKind.wrap;simp[IntKind.bits,IntKind.signed];omega
    clear hR hX hne;generalize s[i]=ch at *;cases hb:blankU ch.toNat
    ·rw[hb]at cb;cases htk:tokR (s.drop i)with
     | bad e0=>
      rw[htk]at c1 hok;have HV:=Qh (HBD.out hb e0 htk);have he0:0 < e0∧e0 < 9:=hok;have ge:((e0:Int) != 0)=true:=(by rw[bne_iff_ne];omega);have c2:∀ w,Calls prog 81 #[.string ⟨s.toArray⟩,.int .i64 (i:Nat)] w fun e w'=>e=.returned (.tuple #[.agg #[.int .i64 0,.string ⟨#[]⟩,.int .i64 0,.int .i64 0],.int .i64 0,.int .i64 (e0:Nat)])∧Below w.heap.size w w':=c1
      clear c1 hok htk hb HBL HBD HGD hpl;go_wp2_with fail;with_reducible refine(cb _).mono ?_
      rintro e w4 ⟨rfl,rfl⟩;go_wp2_with fail;with_reducible refine(c2 _).mono ?_
      rintro e w5 ⟨rfl,hb5⟩;have HX5:=Qh ((HX.out.below hb5).below ((Below.refl w5.heap.size w5).alloc lrf (.cells #[.int .i64 0,.string ⟨#[]⟩,.int .i64 0,.int .i64 0] 103)));obtain⟨bp,op,hap,hbp,p0,p1⟩:=pl_at HX5.out.pl.sl.2 hpi;subst hap;rw[hpq]at p0 p1;obtain⟨r0,r1,f0,f1⟩:=HX5.out.bk.two;have hpne:w.heap.size≠bp:=(by have:=HX5.out.pa bp rfl;omega);clear hb5 c2 cb;go_wp2_with fail;generalize w5.alloc (.cells #[.int .i64 0,.string ⟨#[]⟩,.int .i64 0,.int .i64 0] 103)=w6 at *;go_still_tail 7,(by kernel_rfl)
      change wpList _ _ _ _ _ (World.drew _);go_wp2_with fail;exact bodyPost_ret (v:=.tuple #[.slice none 0 0,.int .i64 (e0:Nat),.agg #[.int .i64 q1,.int .i64 q2]]) (by simp[results,results21,go_sem,r0,r1]) rfl (by rw[HV.out];exact⟨(e0:Nat),q1,q2,rfl,(HX5.out.bel.drew.setCell (p:=⟨w.heap.size,0,none⟩) lrf _).setCell (p:=⟨w.heap.size,1,none⟩) lrf _,.inr ⟨rfl,HQ.out⟩,by omega,by omega⟩)
     | good kk t m=>
      rw[htk]at c1 hok;obtain⟨hm1,q',hR2⟩:=HGD.out hb kk t m htk;have HR2:=Qh hR2;have hml:i+m≤s.length:=hR2.hk;have c2:∀ w,Calls prog 81 #[.string ⟨s.toArray⟩,.int .i64 (i:Nat)] w fun e w'=>e=.returned (.tuple #[.agg #[.int .i64 kk,.string ⟨t.toArray⟩,.int .i64 0,.int .i64 0],.int .i64 ((i+m:Nat):Int),.int .i64 0])∧Below w.heap.size w w':=c1
      clear c1 hok htk hb HBL HBD HGD hpl hR2;go_wp2_with fail;with_reducible refine(cb _).mono ?_
      rintro e w4 ⟨rfl,rfl⟩;go_wp2_with fail;with_reducible refine(c2 _).mono ?_
      rintro e w5 ⟨rfl,hb5⟩;have hx5:=HX.out.below hb5;have HX6:=Qh (hx5.below ((Below.refl w5.heap.size w5).alloc lrf (.cells #[.int .i64 kk,.string ⟨t.toArray⟩,.int .i64 0,.int .i64 0] 103)));have HX7:=Qh (hx5.below ((((Below.refl w5.heap.size w5).alloc lrf (.cells #[.int .i64 kk,.string ⟨t.toArray⟩,.int .i64 0,.int .i64 0] 103)).setCell (p:=⟨w5.heap.size,2,none⟩) lrf (.int .i64 q1)).setCell (p:=⟨w5.heap.size,3,none⟩) lrf (.int .i64 q2)));have hk6:=Blk.new w5 #[.int .i64 kk,.string ⟨t.toArray⟩,.int .i64 0,.int .i64 0] 103;have hk7:=(hk6.st 2 (.int .i64 q1)).st 3 (.int .i64 q2);obtain⟨bp,op,hap,hbp,p0,p1⟩:=pl_at HX6.out.pl.sl.2 hpi;subst hap;rw[hpq]at p0 p1;have hbp5:w5.heap.size≠bp:=(by have:=(hx5.pl.lt bp rfl).2;omega);obtain⟨⟨r0,r1,r2,r3⟩,f0,f1,f2,f3⟩:=hk6.four;obtain⟨⟨t0,t1,t2,t3⟩,g0,g1,g2,g3⟩:=(show Blk _ w5.heap.size #[.int .i64 kk,.string ⟨t.toArray⟩,.int .i64 q1,.int .i64 q2]from hk7).four;clear hb5 c2 cb hx5 hk6 hk7;have HSZ:=Qh (World.size_alloc w5 (.cells #[.int .i64 kk,.string ⟨t.toArray⟩,.int .i64 0,.int .i64 0] 103));go_upto_region 15 with fail
      generalize w5.alloc (.cells #[.int .i64 kk,.string ⟨t.toArray⟩,.int .i64 0,.int .i64 0] 103)=w6 at *;generalize w5.heap.size=T at *;go_wp2_with (at_builtin;go_loud (refine wpList_append_elem3 toks_ty acc ⟨kk,t,q1,q2⟩ HX7.out.own HX7.out.bel lrf (by omega) ?_ (hx:=by rw[World.size_setCell,World.size_setCell,HSZ.out];rfl) (hone:=by simp[enTok,Value.oneCell'])))
      intro v' w9 hown hbel hg hv;have HX9:=Qh (HX7.out.app hown hbel hg (fun k hk=>by have:=hv k hk;simpa using this));clear hown hbel hg hv r0 r1 r2 r3 f0 f1 f2 f3 t0 t1 t2 t3 g0 g1 g2 g3 p0 p1;go_wp2_with fail;go_roundw;case rel=>exact⟨i+m,n+1,_,q',by first|rfl|go_num,by first|rfl|go_num,by omega,by rw[List.length_append];simp;omega,HR2.out,HX9.out⟩
      case measure=>(simp[intOf]<;>omega)
    ·rw[hb]at cb;obtain⟨q',hR2⟩:=HBL.out hb;have HR2:=Qh hR2;clear c1 hok hb HBL HBD HGD hpl hR2;go_wp2_with fail;with_reducible refine(cb _).mono ?_
     rintro e w4 ⟨rfl,rfl⟩;go_wp2_with fail;go_roundw;case rel=>exact⟨i+1,n+1,acc,q',by first|rfl|go_num,by first|rfl|go_num,by omega,by omega,HR2.out,HX.out⟩
     case measure=>(simp[intOf]<;>omega)
   ·have hil:i=s.length:=(by have:=hR.hk;omega);have HV:=Qh (hR.fin hil);obtain⟨bp,op,hap,hbp,p0,p1⟩:=pl_at hpl hpi;subst hap;rw[hpq]at p0 p1;obtain⟨r0,r1,f0,f1⟩:=hX.bk.two;subst hil;have hbnd:(acc.length+1)*40≤140737488355328:=(by omega);have HBN:=Qh hbnd;clear hR hX hpl hbnd;by_cases hnn:(n:Int) < s.length;all_goals
     go_wp2_with (at_builtin;go_loud (refine wpList_append_elem3 toks_ty acc (endTok (q1,q2)) HX.out.own HX.out.bel lrf HBN.out ?_ (hone:=by simp[enTok,endTok,Value.oneCell'])))
     intro v' w9 hown hbel hg hv;have HX9:=Qh (HX.out.app hown hbel hg hv);obtain⟨a9,c9,rfl,_⟩:=hown.shape;clear hown hbel hg hv r0 r1 f0 f1 p0 p1;obtain⟨r0,r1,f0,f1⟩:=HX9.out.bk.two;have HO:=Qh ((HX9.out.own.setOther (p:=⟨w.heap.size,0,none⟩) (fun j hj=>by have:=HX9.out.far j hj;show w.heap.size≠j;omega) (.int .i64 0)).setOther (p:=⟨w.heap.size,1,none⟩) (fun j hj=>by have:=HX9.out.far j hj;show w.heap.size≠j;omega) (.int .i64 0));go_wp2_with fail;exact bodyPost_ret (v:=.tuple #[.slice a9 (acc++[endTok (q1,q2)]).length c9,.int .i64 0,.agg #[.int .i64 0,.int .i64 0]]) (by simp[results,results21,go_sem,r0,r1]) rfl (by rw[HV.out];exact⟨a9,c9,rfl,HO.out,(HX9.out.bel.setCell (p:=⟨w.heap.size,0,none⟩) lrf _).setCell (p:=⟨w.heap.size,1,none⟩) lrf _⟩)
end Go.Proofs.YtlacjhjckkablaaGreatDoor
