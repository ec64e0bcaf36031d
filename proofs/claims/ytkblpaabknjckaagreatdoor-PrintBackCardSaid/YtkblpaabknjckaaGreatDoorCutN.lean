/-
  Plain: a source into which blanks-begun texts are put where a token begins: its tokens, and those of what is put in.
-/
import Derived.Test.YtkblpaabknjckaaGreatDoorFilM
import Derived.Test.YtkblpaabknjckaaGreatDoorRplE
import Derived.Test.YtkblpaabknjckaaGreatDoorBaseD
import Derived.Test.YtkblpaabknjckaaGreatDoorFrmF
set_option maxHeartbeats 128000000
set_option linter.unusedVariables false
namespace Go.Proofs.YtkblpaabknjckaaGreatDoor
open Go.RowKit Go.Shelf
theorem bl_of {x:UInt8} (h:blankU x.toNat=true):x=32∨x=9∨x=10∨x=13:=by
 unfold blankU at h;simp only[Bool.or_eq_true,beq_iff_eq]at h;rcases h with ((h|h)|h)|h
 ·exact .inl (UInt8.toNat.inj h)
 ·exact .inr (.inl (UInt8.toNat.inj h))
 ·exact .inr (.inr (.inl (UInt8.toNat.inj h)))
 ·exact .inr (.inr (.inr (UInt8.toNat.inj h)))
theorem get_ext {s:List UInt8} {N i:Nat} (r:List UInt8) (hi:i < N) (hN:N≤s.length):(s.take N++r)[i]? = s[i]?:=by
 rw[List.getElem?_append_left (by rw[List.length_take];omega),List.getElem?_take,if_pos hi]
theorem drop_ext {s:List UInt8} {N j:Nat} (r:List UInt8) (hj:j≤N) (hN:N≤s.length):(s.take N++r).drop j=(s.drop j).take (N - j)++r:=by
 rw[List.drop_append_of_le_length (by rw[List.length_take];omega),List.drop_take]
theorem sgn_ext {s:List UInt8} {N j:Nat} (r:List UInt8) (hj:j < N) (hN:N≤s.length):sgnN ((s.take N++r).drop j)=sgnN (s.drop j):=by
 rw[drop_ext r (Nat.le_of_lt hj) hN,List.drop_eq_getElem_cons (show j < s.length by omega),show N - j=(N - j - 1)+1 by omega,List.take_succ_cons];rfl
theorem endQ_esc:∀ (t:List UInt8) (i:Nat) (r:List UInt8),endQ false i (escQ t++34::r)=some (i+(escQ t).length)
 | [],i,r=>rfl
 | c::t,i,r=>by
  have e1:escQ (c::t)=escB c++escQ t:=rfl;have ih:=endQ_esc t;rw[e1,List.append_assoc,List.length_append];unfold escB;split
  ·have h:endQ false i ([92,c]++(escQ t++34::r))=endQ false (i+1+1) (escQ t++34::r):=rfl;rw[h,ih];show some (i+1+1+(escQ t).length)=some (i+(2+(escQ t).length))
   congr 1
   omega
  ·rename_i hc
   have h:endQ false i ([c]++(escQ t++34::r))=endQ false (i+1) (escQ t++34::r):=by
    show(if c=92 then _ else if c=34 then _ else _)=_;rw[if_neg (fun h=>hc (.inl h)),if_neg (fun h=>hc (.inr h))];rfl
   rw[h,ih];show some (i+1+(escQ t).length)=some (i+(1+(escQ t).length))
   congr 1
   omega
theorem unq_escQ:∀ (t acc:List UInt8),unq acc (escQ t++[34])=some (acc++t,[34])
 | [],acc=>by rw[List.append_nil];exact unq_quote acc []
 | c::t,acc=>by
  have e1:escQ (c::t)=escB c++escQ t:=rfl;have ih:=unq_escQ t;rw[e1,List.append_assoc];unfold escB;split
  ·rename_i hc
   have h:unq acc ([92,c]++(escQ t++[34]))=if c=34∨c=92 then unq (acc++[c]) (escQ t++[34]) else none:=unq_esc
   rw[h,if_pos hc.symm,ih,List.append_assoc];rfl
  ·rename_i hc
   have h:unq acc ([c]++(escQ t++[34]))=unq (acc++[c]) (escQ t++[34]):=unq_plain (fun h=>hc (.inr h)) (fun h=>hc (.inl h));rw[h,ih,List.append_assoc];rfl
theorem unqL_quo {t:List UInt8} (h:mayN t=0):unqL (quoL t)=.good t:=by
 have e:∃ a u,escQ t++[34]=a::u:=by
  cases h:escQ t with
  | nil=>exact⟨34,[],rfl⟩
  | cons a u=>exact⟨a,u++[34],rfl⟩
 obtain⟨a,u,e⟩:=e;have h2:=unq_escQ t [];unfold quoL;rw[e]at h2 ⊢;show unqEnd (unq [] (a::u))=_;rw[h2];show unqFin t=_;unfold unqFin;rw[if_pos h]
theorem unq_may {x t:List UInt8} (h:unqL x=.good t):mayN t=0:=by
 unfold unqL at h;split at h
 ·cases h
 ·cases h
 ·split at h
  ·unfold unqEnd at h;split at h
   ·cases h
   ·cases h
   ·split at h
    ·unfold unqFin at h;split at h
     ·rename_i h2
      cases h;exact h2
     ·cases h
    ·cases h
  ·cases h
theorem textR_may {s t:List UInt8} {k:Int} {n:Nat} (h:textR s=.good k t n):mayN t=0:=by
 unfold textR at h;split at h
 ·cases h
 ·split at h
  ·split at h<;>cases h
  ·rename_i h2
   cases h;exact unq_may h2
theorem textR_quo {t:List UInt8} (h:mayN t=0) (r:List UInt8):textR (quoL t++r)=.good 3 t (quoL t).length:=by
 have e0:(quoL t++r).drop 1=escQ t++34::r:=(by unfold quoL;simp);have hl:(quoL t).length=1+(escQ t).length+1:=(by unfold quoL;simp;omega);unfold textR;rw[e0,endQ_esc];simp only;rw[show 1+(escQ t).length+1=(quoL t).length from hl.symm,List.take_left,unqL_quo h]
theorem tok_nb {c:UInt8} {u:List UInt8} {k:Int} {t:List UInt8} {n:Nat} (h:tokR (c::u)=.good k t n):blankU c.toNat=false:=by
 cases hb:blankU c.toNat
 ·rfl
 ·exfalso;rw[tok_bytes]at h;rcases bl_of hb with rfl|rfl|rfl|rfl
  all_goals
   rw[if_neg (by decide),if_neg (by simp[sgC,dgU]),if_neg (by decide),if_neg (by decide),if_neg (by simp[ordB])]at h;cases h
theorem tw_long {p:UInt8→Bool} (r:List UInt8):∀ (X:List UInt8) (k:Nat),(X.takeWhile p).length < k→k≤X.length→(X.take k++r).takeWhile p=X.takeWhile p:=by
 intro X
 induction X with
 | nil=>intro k hk hx;simp at hx;omega
 | cons c t ih=>
  intro k hk hx;rw[List.takeWhile_cons]at hk ⊢;cases k with
  | zero=>omega
  | succ k=>
   rw[List.take_succ_cons,List.cons_append,List.takeWhile_cons];cases hc:p c
   ·rfl
   ·rw[hc]at hk;simp only[if_true,List.length_cons]at hk hx ⊢;rw[ih k (by omega) (by omega)]
theorem num3_long {s:List UInt8} (r:List UInt8) {N n:Nat} (hn:n < N) (hN:N≤s.length):num3T (s.take N++r) n=num3T s n:=by
 unfold num3T;rw[get_ext r hn hN]
theorem num2_long {s:List UInt8} (r:List UInt8) {N n m:Nat} (h:num2T s n=m) (h0:m≠0) (hm:m < N) (hnm:n≤m) (hN:N≤s.length):num2T (s.take N++r) n=m:=by
 have hn:n < s.length:=(by omega);have h':=h;unfold num2T at h' ⊢;rw[get_ext r (show n < N by omega) hN];rw[at_some hn]at h' ⊢;simp only at h' ⊢;split at h'
 ·rename_i hE
  split at h'
  ·exact absurd h'.symm h0
  ·rename_i htw
   have hNe:=num3_nz h' h0;have hpos:0 < (tw (s.drop (n+1+sgnN (s.drop (n+1))))).length:=List.length_pos_iff.2 htw;have e1:sgnN ((s.take N++r).drop (n+1))=sgnN (s.drop (n+1)):=sgn_ext r (by omega) hN;have e2:tw ((s.take N++r).drop (n+1+sgnN (s.drop (n+1))))=tw (s.drop (n+1+sgnN (s.drop (n+1)))):=by
    rw[drop_ext r (by omega) hN];exact tw_long r _ _ (by show(tw _).length < _;omega) (by rw[List.length_drop];omega)
   rw[if_pos hE,e1,e2,if_neg htw,num3_long r (by omega) hN];exact h'
 ·rename_i hE
  rw[if_neg hE,num3_long r (by omega) hN];exact h'
theorem num1_long {s:List UInt8} (r:List UInt8) {N n m:Nat} (h:num1T s n=m) (h0:m≠0) (hm:m < N) (hnm:n≤m) (hN:N≤s.length):num1T (s.take N++r) n=m:=by
 have hn:n < s.length:=(by omega);have h':=h;unfold num1T at h' ⊢;rw[get_ext r (show n < N by omega) hN];rw[at_some hn]at h' ⊢;simp only at h' ⊢;split at h'
 ·rename_i hE
  split at h'
  ·exact absurd h'.symm h0
  ·rename_i htw
   obtain⟨h1,-⟩:=cutE_take h' h0;have e2:tw ((s.take N++r).drop (n+1))=tw (s.drop (n+1)):=by
    rw[drop_ext r (by omega) hN];exact tw_long r _ _ (by show(tw _).length < _;omega) (by rw[List.length_drop];omega)
   rw[if_pos hE,e2,if_neg htw];exact num2_long r h' h0 hm (by omega) hN
 ·rename_i hE
  rw[if_neg hE];exact num2_long r h' h0 hm hnm hN
theorem num_long {s:List UInt8} (r:List UInt8) {N m:Nat} (h:numN s=m) (h0:m≠0) (hm:m < N) (hN:N≤s.length):numN (s.take N++r)=m:=by
 have h1:num1T s (sgnN s+(tw (s.drop (sgnN s))).length)=m:=h;obtain⟨h2,-⟩:=cutP_take h1 h0;have e1:sgnN (s.take N++r)=sgnN s:=by
  have:=sgn_ext (j:=0) r (by omega) hN
  simpa using this
 unfold numN;rw[e1,drop_ext r (by omega) hN,show tw ((s.drop (sgnN s)).take (N - sgnN s)++r)=tw (s.drop (sgnN s))from tw_long r _ _ (by show(tw _).length < _;omega) (by rw[List.length_drop];omega)];exact num1_long r h1 h0 hm (by omega) hN
theorem endQ_ge:∀ (l:List UInt8) (b:Bool) (j i:Nat),endQ b j l=some i→j≤i
 | [],b,j,i,h=>by rw[endQ_nil]at h;cases h
 | c::t,true,j,i,h=>by have:=endQ_ge t false (j+1) i h;omega
 | c::t,false,j,i,h=>by
  unfold endQ at h;split at h
  ·have:=endQ_ge t true (j+1) i h;omega
  ·split at h
   ·cases h;exact lrf
   ·have:=endQ_ge t false (j+1) i h;omega
theorem endQ_long (r:List UInt8):∀ (l:List UInt8) (b:Bool) (j i k:Nat),endQ b j l=some i→i - j < k→endQ b j (l.take k++r)=some i
 | [],b,j,i,k,h,hk=>by rw[endQ_nil]at h;cases h
 | c::t,b,j,i,0,h,hk=>absurd hk (by omega)
 | c::t,true,j,i,k+1,h,hk=>by
  have h':endQ false (j+1) t=some i:=h;have:=endQ_ge t false (j+1) i h';rw[List.take_succ_cons,List.cons_append];exact endQ_long r t false (j+1) i k h' (by omega)
 | c::t,false,j,i,k+1,h,hk=>by
  rw[List.take_succ_cons,List.cons_append];unfold endQ at h ⊢;split at h
  ·rename_i h1
   have:=endQ_ge t true (j+1) i h;rw[if_pos h1];exact endQ_long r t true (j+1) i k h (by omega)
  ·rename_i h1
   rw[if_neg h1];split at h
   ·rename_i h2
    rw[if_pos h2];exact h
   ·rename_i h2
    have:=endQ_ge t false (j+1) i h;rw[if_neg h2];exact endQ_long r t false (j+1) i k h (by omega)
theorem textR_long {s:List UInt8} (r:List UInt8) {k:Int} {t:List UInt8} {m N:Nat} (h:textR s=.good k t m) (hm:m≤N) (hN:N≤s.length) (h2:0 < N):textR (s.take N++r)=.good k t m:=by
 unfold textR at h ⊢;cases he:endQ false 1 (s.drop 1)with
 | none=>rw[he]at h;cases h
 | some i=>
  rw[he]at h;simp only at h;have hi:=endQ_ge _ _ _ _ he;have hmi:m=i+1:=by
   revert h;cases unqL (s.take (i+1))with
   | bad n=>intro h;simp only at h;split at h<;>cases h
   | good t=>intro h;cases h;rfl
  rw[drop_ext r (by omega) hN,endQ_long r _ _ _ _ _ he (by omega)];simp only;rw[List.take_append_of_le_length (by rw[List.length_take];omega),List.take_take,Nat.min_eq_left (by omega)];exact h
theorem tok_long {s:List UInt8} (hne:s≠[]) {k:Int} {t:List UInt8} {m N:Nat} (h:tokR s=.good k t m) (hm:m < N) (hN:N≤s.length) (r:List UInt8):tokR (s.take N++r)=.good k t m:=by
 obtain⟨c,u,rfl⟩:=List.exists_cons_of_ne_nil hne;have hb:=tok_bytes c u;rw[hb]at h;have e:(c::u).take N++r=c::(u.take (N - 1)++r):=by
  rw[show N=(N - 1)+1 by omega,List.take_succ_cons];rfl
 have htk:∀ j,j≤N→((c::u).take N++r).take j=(c::u).take j:=fun j hj=>by
  rw[List.take_append_of_le_length (by rw[List.length_take];omega),List.take_take,Nat.min_eq_left hj]
 have hsg:1 < N→sgC c.toNat ((c::u).take N++r)=sgC c.toNat (c::u):=fun h1=>by
  unfold sgC;rw[get_ext r h1 hN]
 split at h
 ·rename_i h1
  cases h
  have hnm:nameN ((c::u).take N++r)=nameN (c::u):=by
   show(List.takeWhile ldC _).length=_;rw[tw_long r _ _ hm hN];rfl
  rw[← htk _ (Nat.le_of_lt hm),← hnm];rw[e,tok_bytes,if_pos h1]
 ·rename_i h1
  split at h
  ·rename_i h2
   split at h
   ·cases h
   ·rename_i h3
    cases h
    have hnm:=num_long (s:=c::u) r rfl h3 hm hN;have hs:=hsg (by omega);rw[← htk _ (Nat.le_of_lt hm)];rw[e]at hs hnm ⊢;rw[tok_bytes,if_neg h1,hs,if_pos h2,hnm,if_neg h3]
  ·rename_i h2
   have hs2:1 < N→¬ (dgU c.toNat || sgC c.toNat (c::(u.take (N - 1)++r)))=true:=fun h1=>by rw[← e,hsg h1];exact h2
   split at h
   ·rename_i h3
    have hm1:1≤m:=by
     unfold textR at h;split at h
     ·cases h
     ·split at h
      ·split at h<;>cases h
      ·cases h;omega
    have:=textR_long r h (Nat.le_of_lt hm) hN (by omega);rw[e]at this ⊢;rw[tok_bytes,if_neg h1,if_neg (hs2 (by omega)),if_pos h3];exact this
   ·rename_i h3
    split at h
    ·rename_i h4
     cases h
     rw[e,tok_bytes,if_neg h1,if_neg (hs2 hm),if_neg h3,if_pos h4]
    ·rename_i h4
     split at h
     ·rename_i h5
      cases h
      have ho:ordB ((c::u).take N++r)=true:=by
       unfold ordB at h5 ⊢;rw[htk 3 (by omega)];exact h5
      rw[← htk 3 (by omega)];rw[e]at ho ⊢;rw[tok_bytes,if_neg h1,if_neg (hs2 (by omega)),if_neg h3,if_neg h4,if_pos ho]
     ·cases h
theorem decN_trunc {n b0 b1 b2 b3 c1 c2 c3:Nat} (hn:1≤n) (e1:2≤(Lib.decodeN n b0 b1 b2 b3).2→c1=b1) (e2:3≤(Lib.decodeN n b0 b1 b2 b3).2→c2=b2) (e3:4≤(Lib.decodeN n b0 b1 b2 b3).2→c3=b3)
  (hill:¬ ((Lib.decodeN n b0 b1 b2 b3).1=65533∧(Lib.decodeN n b0 b1 b2 b3).2=1)):Lib.decodeN (Lib.decodeN n b0 b1 b2 b3).2 b0 c1 c2 c3=Lib.decodeN n b0 b1 b2 b3:=by
 by_cases h1:b0 < 128
 ·have e:∀ m x y z,Lib.decodeN m b0 x y z=(b0,1):=fun m x y z=>by unfold Lib.decodeN;rw[if_pos h1]
  rw[e,e]
 obtain⟨R,k,e⟩:∃ R k,Lib.decodeN n b0 b1 b2 b3=(R,k):=⟨_,_,rfl⟩
 rw[e]at e1 e2 e3 hill ⊢;simp only at e1 e2 e3 hill ⊢;unfold Lib.decodeN at e ⊢;rw[if_neg h1]at e ⊢;split at e
 ·rename_i h2
  split at e
  ·rename_i h3
   cases e
   obtain rfl:=e1 (by decide);rw[if_pos ⟨h2.1,by decide,h2.2.2⟩,if_pos h3]
  ·cases e;exact absurd ⟨rfl,rfl⟩ hill
 rename_i h2
 split at e
 ·rename_i h3
  split at e
  ·rename_i h4
   cases e
   obtain rfl:=e1 (by decide);obtain rfl:=e2 (by decide);rw[if_neg (by omega),if_pos (by omega),if_pos h4]
  ·cases e;exact absurd ⟨rfl,rfl⟩ hill
 rename_i h3
 split at e
 ·rename_i h4
  split at e
  ·rename_i h5
   cases e
   obtain rfl:=e1 (by decide);obtain rfl:=e2 (by decide);obtain rfl:=e3 (by decide);rw[if_neg (by omega),if_neg (by omega),if_pos (by omega),if_pos h5]
  ·cases e;exact absurd ⟨rfl,rfl⟩ hill
 ·cases e;exact absurd ⟨rfl,rfl⟩ hill
theorem take_ne {s:List UInt8} {n:Nat} (h1:1≤n) (h2:n≤s.length):s.take n≠[]:=by
 intro h0;have h:=congrArg List.length h0;rw[List.length_take,Nat.min_eq_left h2]at h;have h3:n=0:=h;omega
theorem dec_self (s:List UInt8) (hne:s≠[]) (hill:illU (decL s).1 (decL s).2=false):decL (s.take (decL s).2)=decL s:=by
 have hpos:0 < s.length:=List.length_pos_iff.2 hne;have hw:=dec_w s;have hw2:=hw.2.2 hne;have hi:¬ ((decL s).1=65533∧(decL s).2=1):=by
  rintro⟨h1,h2⟩;unfold illU at hill;rw[h1,h2]at hill;exact absurd hill (by decide)
 have hg:∀ j,j < (decL s).2→(s.take (decL s).2).getD j 0=s.getD j 0:=fun j hj=>by
  rw[List.getD_eq_getElem?_getD,List.getElem?_take,if_pos hj,List.getD_eq_getElem?_getD]
 have hl:(s.take (decL s).2).length=(decL s).2:=(by rw[List.length_take];omega);have key:decL (s.take (decL s).2)=Lib.decodeN (decL s).2 (s.getD 0 0).toNat ((s.take (decL s).2).getD 1 0).toNat ((s.take (decL s).2).getD 2 0).toNat ((s.take (decL s).2).getD 3 0).toNat:=by
  show Lib.decodeN _ _ _ _ _=_;rw[hl,hg 0 (by omega)]
 rw[key];exact decN_trunc hpos (fun h=>by rw[hg 1 h]) (fun h=>by rw[hg 2 h]) (fun h=>by rw[hg 3 h]) hi
theorem fine_one (c:UInt8) (h:c.toNat < 128) (hb:badU c.toNat 1=false):fineF 1 [c]:=by
 rw[fine_cons (List.cons_ne_nil _ _),dec_ascii c [] h];exact⟨hb,fine_nil _⟩
def plnF (s:List UInt8):Prop:=∀ u∈unitsF s.length s (1,1),illU u.rune u.wide=false∧ctlU u.rune=false
theorem may_pln {t:List UInt8} (h:mayN t=0):plnF t:=by
 unfold mayN at h;split at h
 ·cases h
 ·split at h
  ·cases h
  ·rename_i h2
   rw[Bool.not_eq_true,Bool.or_eq_false_iff]at h2;intro u hu;have h3:=List.any_eq_false.1 h2.1 u hu;have h4:=List.any_eq_false.1 h2.2 u hu;exact⟨by simpa using h3,by simpa using h4⟩
theorem pln_fine {t:List UInt8} (h:plnF t):fineF t.length t:=fun u hu=>by
 unfold badU;rw[(h u hu).1,(h u hu).2];rfl
theorem escQ_high:∀ (l:List UInt8),(∀ c∈l,128≤c.toNat)→escQ l=l
 | [],_=>rfl
 | c::t,h=>by
  have e1:escQ (c::t)=escB c++escQ t:=rfl;have hc:=h c (List.mem_cons_self ..);rw[e1,escQ_high t (fun d hd=>h d (List.mem_cons_of_mem _ hd))];unfold escB;rw[if_neg (by rintro (rfl|rfl)<;>exact absurd hc (by decide))];rfl
theorem esc_fine:∀ (f:Nat) (t:List UInt8),t.length≤f→fineF f t→fineF (escQ t).length (escQ t)
 | 0,t,hf,_=>by
  have:t=[]:=List.length_eq_zero_iff.1 (by omega);subst this;exact fine_nil _
 | f+1,t,hf,h=>by
  by_cases h0:t=[]
  ·subst h0;exact fine_nil _
  rw[fine_cons h0]at h;have hw:=dec_w t;have hw2:=hw.2.2 h0;have ih:=esc_fine f (t.drop (decL t).2) (drop_short hf) h.2;have hsp:t=t.take (decL t).2++t.drop (decL t).2:=(List.take_append_drop _ _).symm;have he:escQ t=escQ (t.take (decL t).2)++escQ (t.drop (decL t).2):=(by rw[← escQ_app,List.take_append_drop]);rw[he];refine fine_app _ _ _ _ lrf lrf ?_ ih;by_cases hr:(decL t).1 < 128
  ·obtain⟨a,u,rfl⟩:=List.exists_cons_of_ne_nil h0;obtain⟨e,h1⟩:=dec_low a u hr;rw[e]at h ⊢;show fineF (escQ [a]).length (escQ [a]);have e2:escQ [a]=escB a:=(by show escB a++[]=_;rw[List.append_nil]);rw[e2];unfold escB;split
   ·exact fine_app 1 [92] [a] 2 lrf lrf (fine_one 92 (by decide) (by decide)) (fine_one a h1 h.1)
   ·exact fine_one a h1 h.1
  ·rw[escQ_high _ (dec_conts t (by omega) h0)];have hne2:t.take (decL t).2≠[]:=take_ne hw.1 hw2;have hl:(t.take (decL t).2).length=((decL t).2 - 1)+1:=(by rw[List.length_take];omega);rw[hl,fine_cons hne2,dec_self t h0 (bad_ill h.1)];exact⟨h.1,by rw[List.drop_take,Nat.sub_self,List.take_zero];exact fine_nil _⟩
theorem quo_fine {t:List UInt8} (h:mayN t=0):fineF (quoL t).length (quoL t):=by
 have h1:=esc_fine _ _ lrf (pln_fine (may_pln h));have h2:fineF (escQ t++[34]).length (escQ t++[34]):=fine_app _ _ _ _ lrf lrf h1 (fine_one 34 (by decide) (by decide));exact fine_app 1 [34] (escQ t++[34]) _ lrf (by unfold quoL;simp) (fine_one 34 (by decide) (by decide)) h2
theorem drop_head {O:List UInt8} {j:Nat} {x:UInt8} {m:List UInt8} (h:O.drop j=x::m):∃ hj:j < O.length,O[j]=x∧O.drop (j+1)=m:=by
 have hlt:j < O.length:=by
  rcases Nat.lt_or_ge j O.length with h1|h1
  ·exact h1
  ·rw[List.drop_eq_nil_of_le h1]at h;cases h
 have h2:=List.drop_eq_getElem_cons hlt;rw[h]at h2;obtain⟨e1,e2⟩:=List.cons.inj h2;exact⟨hlt,e1.symm,e2.symm⟩
theorem ref_start {O:List UInt8} (hl:O.length≤1048576) (hf:fineF O.length O):RefI O (scanL O) 0 [] (1,1):=by
 refine⟨Nat.zero_le _,.zero _ _,?_⟩;have hc:=(check_fine O).2 hf;show scanL O=_;unfold scanL;rw[if_neg (by omega),hc];rfl
end Go.Proofs.YtkblpaabknjckaaGreatDoor
