/-
  Plain: the four comments: their tokens are passed over.
-/
import Derived.Test.YtjgjckipfkkgiaaGreatDoorCutN
import Derived.Test.YtjgjckipfkkgiaaGreatDoorFrmG
import Derived.Test.YtjgjckipfkkgiaaGreatDoorFilM
import Derived.Test.YtjgjckipfkkgiaaGreatDoorSamA
import Derived.Test.YtjgjckipfkkgiaaGreatDoorRlxM
import Derived.Test.YtjgjckipfkkgiaaGreatDoorGat6
set_option maxHeartbeats 128000000
set_option linter.unusedVariables false
namespace Go.Proofs.YtjgjckipfkkgiaaGreatDoor
open Go.RowKit Go.Shelf
theorem file_of {O:List UInt8} {T:List TokD} {d:DbD} {r:List TokD} (hw:scanL O=.good T) (hd:dbR T=.ok d r):DbBd d 1048577∧VerOK d∧fileR O=.good (nodsD d):=by
 obtain⟨a1,a2,-,-⟩:=scanL_bd hw;have hf:fileR O=match sourceR T with
  | .ok l _=>.good l
  | .bad no l c=>.bad (faultV no l c):=by unfold fileR;rw[hw];rfl
 have hsd:=source_db T;rw[hsd,hd]at hf;have hb:=db_bd hd (scanL_toks hw);exact⟨⟨hb.nam,hb.mln,hb.msg,by have:=hb.tln;omega,hb.tab⟩,db_ver hd,hf⟩
theorem read_cases (s:List UInt8) :
  (∃ T x,fileR s=.bad (.iface T x))∨(∃ T d r,scanL s=.good T∧dbR T=.ok d r∧s.length≤1048576):=by
 cases hw:scanL s with
 | bad v=>
  obtain⟨T,x,rfl⟩:=scanL_bad hw;exact .inl ⟨T,x,by unfold fileR;rw[hw]⟩
 | good T=>
  obtain⟨a1,a2,-,-⟩:=scanL_bd hw;have hf:fileR s=match sourceR T with
   | .ok l _=>.good l
   | .bad no l c=>.bad (faultV no l c):=by unfold fileR;rw[hw];rfl
  have hsd:=source_db T;rw[hsd]at hf;cases hd:dbR T with
  | bad no L C=>
   rw[hd]at hf;exact .inl ⟨_,_,hf⟩
  | ok d t=>exact .inr ⟨T,d,t,rfl,hd,a1⟩
theorem tok_kind {s:List UInt8} {k:Int} {t:List UInt8} {n:Nat} (h:tokR s=.good k t n):k≠0:=by
 unfold tokR at h;split at h
 ·cases h;decide
 ·split at h
  ·split at h
   ·cases h
   ·cases h;decide
  ·split at h
   ·unfold textR at h;split at h
    ·cases h
    ·split at h
     ·split at h<;>cases h
     ·cases h;decide
   ·split at h
    ·cases h;decide
    ·split at h
     ·cases h;decide
     ·cases h
structure CmtOK (c1:List UInt8):Prop where
 ex:∃ (c0:TokD) (C:List TokD) (e:TokD) (u:List UInt8),scanL c1=.good ((c0::C)++[e])∧e.kind=0∧c0.kind=1∧c0.text=[67,77,95]∧c1=32::u∧c1.length≤1000∧commF (C.length+2) ((c0::C)++[e])=.ok () [e]
theorem headM_ne (x:NodeD):(headM x).1≠[]:=by cases x<;>simp[headM]
theorem head_get {A B:List TokD} (hB:B≠[]) {h:A.length < (A++B).length}:(A++B)[A.length]=headT B:=by
 rcases B with _|⟨b,B⟩
 ·exact absurd rfl hB
 ·simp[headT]
theorem byte_of {s:List UInt8} {T A B:List TokD} (hw:scanL s=.good T) (hT:T=A++B) (hB:B≠[]):∃ N,Bnd s (1,1) N ((headT B).line,(headT B).col)∧(B.length=1→N=s.length)∧(1 < B.length→N < s.length∧(headT B).kind≠0)∧(B.length=1→(headT B).text=[]):=by
 have hpos:0 < B.length:=List.length_pos_iff.2 hB;have hlt:A.length < T.length:=(by rw[hT,List.length_append];omega);obtain⟨N,-,h1,-⟩:=(scanL_chain hw).at A.length hlt;have hg:T[A.length]=headT B:=by
  subst hT;exact head_get hB
 have hb:=h1.bnd;have hl:=h1.last;have ht:=h1.tok;rw[hg]at hb hl ht;refine⟨N,hb,fun h=>?_,fun h=>?_,fun h=>?_⟩
 ·obtain⟨e,rfl⟩:=List.length_eq_one_iff.1 h;exact hb.uniq (chain_last (scanL_chain hw) A e hT)
 ·obtain⟨h2,m,h3⟩:=ht (by rw[hT,List.length_append];omega);exact⟨h2,tok_kind h3⟩
 ·exact(hl (by rw[hT,List.length_append];omega)).2
theorem part_at {s:List UInt8} {T:List TokD} {d:DbD} {hs:List Nat} (hw:scanL s=.good T) (hr:DbRun T d hs) (k:Nat) (hk:k≤(nodsD d).length) :
  ∃ A B N,T=A++B∧B≠[]∧Hard B∧seesB [67,77,95] B=false∧hs[k]? = some B.length∧Bnd s (1,1) N ((headT B).line,(headT B).col)∧(∀ h:k < (nodsD d).length,N < s.length∧mkT (headT B)=headM (nodsD d)[k])∧(k=(nodsD d).length→N=s.length):=by
 obtain⟨hl,e,rfl,h1,A,B,h2,h3,h4,h5⟩:=run_heads hr (scanL_toks hw);rcases Nat.lt_or_eq_of_le hk with hlt|heq
 ·have hlen:=h1.len;rw[List.length_map]at hlen;obtain⟨A,B,e1,e2,e3,e4,e5⟩:=h1.get (k:=k) (by omega) (by rw[List.length_map];exact hlt);obtain⟨N,b1,b2,b3,b4⟩:=byte_of hw e1 e3.1;rw[List.getElem_map]at e5;have hpos:0 < B.length:=List.length_pos_iff.2 e3.1;refine⟨A,B,N,e1,e3.1,e3,e4,?_,b1,fun h=>⟨?_,e5⟩,fun h=>absurd h (by omega)⟩
  ·rw[e2,List.getElem?_append_left (by omega),List.getElem?_eq_getElem (by omega)]
  ·rcases Nat.lt_or_ge 1 B.length with h|h
   ·exact(b3 h).1
   ·exfalso;have h6:=b4 (by omega);have h7:=congrArg Prod.fst e5;have h8:(mkT (headT B)).1=(headT B).text:=rfl;rw[h8,h6]at h7;exact headM_ne _ h7.symm
 ·obtain⟨N,b1,b2,b3,b4⟩:=byte_of hw h2 h4;have hpos:0 < B.length:=List.length_pos_iff.2 h4;have hB1:B.length=1:=by
   rcases Nat.lt_or_ge 1 B.length with h|h
   ·exact absurd h5 (b3 h).2
   ·omega
  refine⟨A,B,N,h2,h4,⟨h4,.inl h5⟩,?_,?_,b1,fun h=>absurd h (by omega),fun _=>b2 hB1⟩
  ·unfold seesB;rw[h5];simp
  ·have hlen:=h1.len;rw[List.length_map]at hlen;rw[h3,List.getElem?_append_right (by omega),hlen,heq,Nat.sub_self];rfl
theorem comments_plain {s:List UInt8} {T:List TokD} {d:DbD} {r:List TokD} (hw:scanL s=.good T) (hd:dbR T=.ok d r) (hlen:s.length≤524288) (k:Nat) (hk:k≤(nodsD d).length) :
  ∃ N,N≤s.length∧(∀ h:k < (nodsD d).length,N < s.length∧Bnd s (1,1) N ((headM (nodsD d)[k]).2.1,(headM (nodsD d)[k]).2.2))∧(k=(nodsD d).length→N=s.length) ∧
   ∀ c1,CmtOK c1→∃ d',DbBd d' 1048577∧VerOK d'∧fileR (s.take N++((c1++[32])++s.drop N))=.good (nodsD d')∧bareD d' = bareD d:=by
 have hb:=scanL_toks hw;obtain⟨hs,hr⟩:=db_run hd hb;obtain⟨A,B,N,h1,h2,h3,h4,h5,h6,h7,h8⟩:=part_at hw hr k hk;refine⟨N,h6.le,fun h=>⟨(h7 h).1,?_⟩,h8,fun c1 hc=>?_⟩
 ·rw[← (h7 h).2];exact h6
 ·obtain⟨c0,C,e,u,g1,g2,g3,g4,g5,g6,g7⟩:=hc.ex;obtain⟨A',C',B',i1,i2,i3,i4⟩:=ins_scan hw h1 h2 h6 hlen g1 g5 g6;obtain⟨c0',C2,rfl,i5,i6⟩:=i3.cons;obtain⟨b0,B2,hBB⟩:=List.exists_cons_of_ne_nil h2;have hcB:seesB [67,77,95] B' = false:=by
   subst hBB;obtain⟨b',B3,rfl,i7,-⟩:=i4.cons;rw[← sees_same i7];exact h4
  have hD:Hard ((c0' :: C2)++B'):=⟨by simp,.inr ⟨.inl (by show c0'.kind=1;rw[ekT_kind i5,g3]),by show c0'.text∈hardW;rw[ekT_text i5,g4];decide⟩⟩
  obtain⟨d',hs',j1,j2⟩:=run_ins hr hb h1 i2 h3 hD h4 (E:=B') (fun f hf=>comm_const g2 i3 (by simpa using g7) hcB f hf) i4 (List.mem_of_getElem? h5);obtain⟨r',j3⟩:=db_of j1 (scanL_toks i1);obtain⟨j4,j5,j6⟩:=file_of i1 j3;exact⟨d',j4,j5,j6,j2⟩
def cmt0L:List UInt8:=[32,67,77,95,32,59]
theorem cmt0_ok:CmtOK cmt0L:=⟨⟨1,[67,77,95],1,2⟩,[⟨4,[59],1,6⟩],⟨0,[],1,7⟩,[67,77,95,32,59],by kernel_rfl,rfl,rfl,rfl,rfl,by decide,by kernel_rfl⟩
def cmt1L:List UInt8:=[32,67,77,95,32,34,120,34,32,59]
theorem cmt1_ok:CmtOK cmt1L:=⟨⟨1,[67,77,95],1,2⟩,[⟨3,[120],1,6⟩,⟨4,[59],1,10⟩],⟨0,[],1,11⟩,[67,77,95,32,34,120,34,32,59],by kernel_rfl,rfl,rfl,rfl,rfl,by decide,by kernel_rfl⟩
def cmt2L:List UInt8:=[32,67,77,95,32,66,79,95,32,50,53,54,32,34,97,59,98,34,32,44,32,40,32,64,48,43,32,59]
theorem cmt2_ok:CmtOK cmt2L:=⟨⟨1,[67,77,95],1,2⟩,[⟨1,[66,79,95],1,6⟩,⟨2,[50,53,54],1,10⟩,⟨3,[97,59,98],1,14⟩,⟨4,[44],1,20⟩,⟨4,[40],1,22⟩,⟨4,[64,48,43],1,24⟩,⟨4,[59],1,28⟩],⟨0,[],1,29⟩,[67,77,95,32,66,79,95,32,50,53,54,32,34,97,59,98,34,32,44,32,40,32,64,48,43,32,59],by kernel_rfl,rfl,rfl,rfl,rfl,by decide,by kernel_rfl⟩
def cmt3L:List UInt8:=[32,67,77,95,32,67,77,95,32,86,69,82,83,73,79,78,32,66,85,95,32,58,32,49,46,53,32,59,32,67,77,95,32,83,71,95,32,77,32,109,48,32,59]
theorem cmt3_ok:CmtOK cmt3L:=⟨⟨1,[67,77,95],1,2⟩,[⟨1,[67,77,95],1,6⟩,⟨1,[86,69,82,83,73,79,78],1,10⟩,⟨1,[66,85,95],1,18⟩,⟨4,[58],1,22⟩,⟨2,[49,46,53],1,24⟩,⟨4,[59],1,28⟩,⟨1,[67,77,95],1,30⟩,⟨1,[83,71,95],1,34⟩,⟨1,[77],1,38⟩,⟨1,[109,48],1,40⟩,⟨4,[59],1,43⟩],⟨0,[],1,44⟩,[67,77,95,32,67,77,95,32,86,69,82,83,73,79,78,32,66,85,95,32,58,32,49,46,53,32,59,32,67,77,95,32,83,71,95,32,77,32,109,48,32,59],by kernel_rfl,rfl,rfl,rfl,rfl,by decide,by kernel_rfl⟩
def cmtL:Nat→List UInt8
 | 0=>cmt0L
 | 1=>cmt1L
 | 2=>cmt2L
 | _=>cmt3L
theorem cmt_ok (j:Nat):CmtOK (cmtL j):=by
 unfold cmtL;split
 ·exact cmt0_ok
 ·exact cmt1_ok
 ·exact cmt2_ok
 ·exact cmt3_ok
end Go.Proofs.YtjgjckipfkkgiaaGreatDoor
