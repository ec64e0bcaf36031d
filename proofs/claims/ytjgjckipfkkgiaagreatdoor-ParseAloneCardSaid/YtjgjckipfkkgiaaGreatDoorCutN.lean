/-
  Plain: a source into which blanks-begun texts are put where a token begins: its tokens, and those of what is put in.
-/
import Derived.Test.YtjgjckipfkkgiaaGreatDoorBaseD
import Derived.Test.YtjgjckipfkkgiaaGreatDoorFilM
import Derived.Test.YtjgjckipfkkgiaaGreatDoorRplE
import Derived.Test.YtjgjckipfkkgiaaGreatDoorFrmC
set_option maxHeartbeats 128000000
set_option linter.unusedVariables false
namespace Go.Proofs.YtjgjckipfkkgiaaGreatDoor
open Go.RowKit Go.Shelf
def BlL (r:List UInt8):Prop:=r=[]∨∃ x m,r=x::m∧blankU x.toNat=true
theorem bl_of {x:UInt8} (h:blankU x.toNat=true):x=32∨x=9∨x=10∨x=13:=by
 unfold blankU at h;simp only[Bool.or_eq_true,beq_iff_eq]at h;rcases h with ((h|h)|h)|h
 ·exact .inl (UInt8.toNat.inj h)
 ·exact .inr (.inl (UInt8.toNat.inj h))
 ·exact .inr (.inr (.inl (UInt8.toNat.inj h)))
 ·exact .inr (.inr (.inr (UInt8.toNat.inj h)))
theorem bl_all {p:UInt8→Bool} (h32:p 32=false) (h9:p 9=false) (h10:p 10=false) (h13:p 13=false):∀ x:UInt8,blankU x.toNat=true→p x=false:=fun x hx=>by
 rcases bl_of hx with rfl|rfl|rfl|rfl<;>assumption
theorem tw_ext {p:UInt8→Bool} (hp:∀ x:UInt8,blankU x.toNat=true→p x=false) {r:List UInt8} (hr:BlL r):∀ (X:List UInt8) (k:Nat),(X.takeWhile p).length≤k→(X.take k++r).takeWhile p=X.takeWhile p:=by
 have h0:r.takeWhile p=[]:=by
  rcases hr with rfl|⟨x,m,rfl,hx⟩
  ·rfl
  ·rw[List.takeWhile_cons,hp x hx];rfl
 intro X
 induction X with
 | nil=>intro k _;rw[List.take_nil,List.nil_append,h0];rfl
 | cons c t ih=>
  intro k hk;rw[List.takeWhile_cons]at hk ⊢;cases hc:p c
  ·rw[hc]at hk;cases k with
   | zero=>rw[List.take_zero,List.nil_append,h0];rfl
   | succ k=>rw[List.take_succ_cons,List.cons_append,List.takeWhile_cons,hc];rfl
  ·rw[hc]at hk;simp only[if_true,List.length_cons]at hk;cases k with
   | zero=>omega
   | succ k=>rw[List.take_succ_cons,List.cons_append,List.takeWhile_cons,hc,ih k (by omega)]
theorem get_ext {s:List UInt8} {N i:Nat} (r:List UInt8) (hi:i < N) (hN:N≤s.length):(s.take N++r)[i]? = s[i]?:=by
 rw[List.getElem?_append_left (by rw[List.length_take];omega),List.getElem?_take,if_pos hi]
theorem get_end {s r:List UInt8} {N:Nat} (hN:N≤s.length) (hr:BlL r):(s.take N++r)[N]? = none∨∃ x,(s.take N++r)[N]? = some x∧blankU x.toNat=true:=by
 have hl:(s.take N).length=N:=(by rw[List.length_take];omega);rw[List.getElem?_append_right (by omega),hl,Nat.sub_self];rcases hr with rfl|⟨x,m,rfl,hx⟩
 ·exact .inl rfl
 ·exact .inr ⟨x,rfl,hx⟩
theorem drop_ext {s:List UInt8} {N j:Nat} (r:List UInt8) (hj:j≤N) (hN:N≤s.length):(s.take N++r).drop j=(s.drop j).take (N - j)++r:=by
 rw[List.drop_append_of_le_length (by rw[List.length_take];omega),List.drop_take]
theorem sgn_ext {s:List UInt8} {N j:Nat} (r:List UInt8) (hj:j < N) (hN:N≤s.length):sgnN ((s.take N++r).drop j)=sgnN (s.drop j):=by
 rw[drop_ext r (Nat.le_of_lt hj) hN,List.drop_eq_getElem_cons (show j < s.length by omega),show N - j=(N - j - 1)+1 by omega,List.take_succ_cons];rfl
theorem num3_ext {s r:List UInt8} {N:Nat} (hN:N≤s.length) (hr:BlL r):num3T (s.take N++r) N=N:=by
 unfold num3T;rcases get_end hN hr with h|⟨x,h,hx⟩
 ·rw[h]
 ·rw[h];have:=bl_all (p:=stopN) (by decide) (by decide) (by decide) (by decide) x hx;simp[this]
theorem dg_bl:∀ x:UInt8,blankU x.toNat=true→isDg x=false:=bl_all (by decide) (by decide) (by decide) (by decide)
theorem num2_ext {s r:List UInt8} {n N:Nat} (h:num2T s n=N) (h0:N≠0) (hN:N≤s.length) (hr:BlL r):num2T (s.take N++r) n=N:=by
 have hend:N=n→num2T (s.take N++r) n=N:=fun e=>by
  subst e;unfold num2T;rcases get_end hN hr with h|⟨x,h,hx⟩
  ·rw[h];exact num3_ext hN hr
  ·rw[h];have:=bl_all (p:=isEe) (by decide) (by decide) (by decide) (by decide) x hx;simp only[this];exact num3_ext hN hr
 by_cases hn:n < s.length
 ·have h':=h;unfold num2T at h';rw[at_some hn]at h';simp only at h';split at h'
  ·rename_i hE
   split at h'
   ·exact absurd h'.symm h0
   ·rename_i htw
    have hNe:=num3_nz h' h0;have hlt:n < N:=(by omega);unfold num2T;rw[get_ext r hlt hN,at_some hn];simp only[hE,if_true];have hpos:0 < (tw (s.drop (n+1+sgnN (s.drop (n+1))))).length:=List.length_pos_iff.2 htw;have e1:sgnN ((s.take N++r).drop (n+1))=sgnN (s.drop (n+1)):=sgn_ext r (by omega) hN;rw[e1];have e2:tw ((s.take N++r).drop (n+1+sgnN (s.drop (n+1))))=tw (s.drop (n+1+sgnN (s.drop (n+1)))):=by
     rw[drop_ext r (by omega) hN];exact tw_ext dg_bl hr _ _ (by show(tw _).length≤_;omega)
    rw[e2,if_neg htw,← hNe];exact num3_ext hN hr
  ·exact hend (num3_nz h' h0)
 ·rw[num2_end hn]at h;exact hend h.symm
theorem num1_ext {s r:List UInt8} {n N:Nat} (h:num1T s n=N) (h0:N≠0) (hN:N≤s.length) (hr:BlL r):num1T (s.take N++r) n=N:=by
 by_cases hn:n < s.length
 ·have h':=h;unfold num1T at h';rw[at_some hn]at h';simp only at h';split at h'
  ·rename_i hE
   split at h'
   ·exact absurd h'.symm h0
   ·rename_i htw
    obtain⟨h1,-⟩:=cutE_take h' h0;have hlt:n < N:=(by omega);unfold num1T;rw[get_ext r hlt hN,at_some hn];simp only[hE,if_true];have e2:tw ((s.take N++r).drop (n+1))=tw (s.drop (n+1)):=by
     rw[drop_ext r (by omega) hN];exact tw_ext dg_bl hr _ _ (by show(tw _).length≤_;omega)
    rw[e2,if_neg htw];exact num2_ext h' h0 hN hr
  ·rename_i hE
   obtain⟨h1,-⟩:=cutE_take h' h0;have h2:=num2_ext h' h0 hN hr;unfold num1T;by_cases hlt:n < N
   ·rw[get_ext r hlt hN,at_some hn];simp only;rw[if_neg hE];exact h2
   ·obtain rfl:N=n:=by omega
    rcases get_end hN hr with h3|⟨x,h3,hx⟩
    ·rw[h3];exact h2
    ·rw[h3];have:=bl_all (p:=fun c=>c == 46) (by decide) (by decide) (by decide) (by decide) x hx;simp only;rw[if_neg (by simpa using this)];exact h2
 ·rw[num1_end hn]at h;subst h;have hN2:n=s.length:=(by omega);unfold num1T;have h2:num2T (s.take n++r) n=n:=num2_ext (num2_end hn) h0 hN hr;rcases get_end hN hr with h3|⟨x,h3,hx⟩
  ·rw[h3];exact h2
  ·rw[h3];have:=bl_all (p:=fun c=>c == 46) (by decide) (by decide) (by decide) (by decide) x hx;simp only;rw[if_neg (by simpa using this)];exact h2
theorem num_ext {s r:List UInt8} {N:Nat} (h:numN s=N) (h0:N≠0) (hr:BlL r):numN (s.take N++r)=N:=by
 have hN:N≤s.length:=(by have:=numN_le s;omega);have h1:num1T s (sgnN s+(tw (s.drop (sgnN s))).length)=N:=h;obtain⟨h2,-⟩:=cutP_take h1 h0;have e1:sgnN (s.take N++r)=sgnN s:=by
  have:=sgn_ext (j:=0) r (by omega) hN
  simpa using this
 unfold numN;rw[e1,drop_ext r (by omega) hN,show tw ((s.drop (sgnN s)).take (N - sgnN s)++r)=tw (s.drop (sgnN s))from tw_ext dg_bl hr _ _ (by show(tw _).length≤_;omega)];exact num1_ext h1 h0 hN hr
theorem endQ_esc:∀ (t:List UInt8) (i:Nat) (r:List UInt8),endQ false i (escQ t++34::r)=some (i+(escQ t).length)
 | [],i,r=>rfl
 | c::t,i,r=>by
  have e1:escQ (c::t)=escB c++escQ t:=rfl;have ih:=endQ_esc t;rw[e1,List.append_assoc,List.length_append];unfold escB;split
  ·have h:endQ false i ([92,c]++(escQ t++34::r))=endQ false (i+1+1) (escQ t++34::r):=rfl;rw[h,ih];show some (i+1+1+(escQ t).length)=some (i+(2+(escQ t).length))
   congr 1
   omega
  ·rename_i hc
   have h:endQ false i ([c]++(escQ t++34::r))=endQ false (i+1) (escQ t++34::r):=by
    show(if c=92 then _ else if c=34 then _ else _)=_;rw[if_neg (fun h=>hc (.inl h)),if_neg (fun h=>hc (.inr h))];rfl
   rw[h,ih];show some (i+1+(escQ t).length)=some (i+(1+(escQ t).length))
   congr 1
   omega
theorem unq_escQ:∀ (t acc:List UInt8),unq acc (escQ t++[34])=some (acc++t,[34])
 | [],acc=>by rw[List.append_nil];exact unq_quote acc []
 | c::t,acc=>by
  have e1:escQ (c::t)=escB c++escQ t:=rfl;have ih:=unq_escQ t;rw[e1,List.append_assoc];unfold escB;split
  ·rename_i hc
   have h:unq acc ([92,c]++(escQ t++[34]))=if c=34∨c=92 then unq (acc++[c]) (escQ t++[34]) else none:=unq_esc
   rw[h,if_pos hc.symm,ih,List.append_assoc];rfl
  ·rename_i hc
   have h:unq acc ([c]++(escQ t++[34]))=unq (acc++[c]) (escQ t++[34]):=unq_plain (fun h=>hc (.inr h)) (fun h=>hc (.inl h));rw[h,ih,List.append_assoc];rfl
theorem unqL_quo {t:List UInt8} (h:mayN t=0):unqL (quoL t)=.good t:=by
 have e:∃ a u,escQ t++[34]=a::u:=by
  cases h:escQ t with
  | nil=>exact⟨34,[],rfl⟩
  | cons a u=>exact⟨a,u++[34],rfl⟩
 obtain⟨a,u,e⟩:=e;have h2:=unq_escQ t [];unfold quoL;rw[e]at h2 ⊢;show unqEnd (unq [] (a::u))=_;rw[h2];show unqFin t=_;unfold unqFin;rw[if_pos h]
theorem unq_may {x t:List UInt8} (h:unqL x=.good t):mayN t=0:=by
 unfold unqL at h;split at h
 ·cases h
 ·cases h
 ·split at h
  ·unfold unqEnd at h;split at h
   ·cases h
   ·cases h
   ·split at h
    ·unfold unqFin at h;split at h
     ·rename_i h2
      cases h;exact h2
     ·cases h
    ·cases h
  ·cases h
theorem textR_may {s t:List UInt8} {k:Int} {n:Nat} (h:textR s=.good k t n):mayN t=0:=by
 unfold textR at h;split at h
 ·cases h
 ·split at h
  ·split at h<;>cases h
  ·rename_i h2
   cases h;exact unq_may h2
theorem textR_quo {t:List UInt8} (h:mayN t=0) (r:List UInt8):textR (quoL t++r)=.good 3 t (quoL t).length:=by
 have e0:(quoL t++r).drop 1=escQ t++34::r:=(by unfold quoL;simp);have hl:(quoL t).length=1+(escQ t).length+1:=(by unfold quoL;simp;omega);unfold textR;rw[e0,endQ_esc];simp only;rw[show 1+(escQ t).length+1=(quoL t).length from hl.symm,List.take_left,unqL_quo h]
def pieceT (k:Int) (t:List UInt8):List UInt8:=if k=3 then quoL t else t
theorem tok_piece {s:List UInt8} (hne:s≠[]) {k:Int} {t:List UInt8} {n:Nat} (h:tokR s=.good k t n) {r:List UInt8} (hr:BlL r):tokR (pieceT k t++r)=.good k t (pieceT k t).length:=by
 have hn:=tok_n s hne h;obtain⟨c,u,rfl⟩:=List.exists_cons_of_ne_nil hne;have hb:=tok_bytes c u;rw[hb]at h;have hcons:∀ m,1≤m→(c::u).take m++r=c::(u.take (m - 1)++r):=fun m hm=>by
  rw[show m=(m - 1)+1 by omega,List.take_succ_cons];rfl
 split at h
 ·rename_i h1
  cases h
  have hld:ldC c=true:=(by unfold ldC;rw[h1];rfl);have hpos:1≤nameN (c::u):=(by unfold nameN;rw[List.takeWhile_cons,hld];simp);have hnm:nameN ((c::u).take (nameN (c::u))++r)=nameN (c::u):=by
   have:=tw_ext (p:=ldC) (bl_all (by decide) (by decide) (by decide) (by decide)) hr (c::u) (nameN (c::u)) lrf;show(List.takeWhile ldC _).length=_;rw[this];rfl
  have hl:((c::u).take (nameN (c::u))).length=nameN (c::u):=(by rw[List.length_take];exact Nat.min_eq_left hn);show tokR ((c::u).take (nameN (c::u))++r)=.good 1 _ ((c::u).take (nameN (c::u))).length;have e:=hcons _ hpos;rw[hl,e,tok_bytes,if_pos h1,← e,hnm,List.take_left' hl]
 ·rename_i h1
  split at h
  ·rename_i h2
   split at h
   ·cases h
   ·rename_i h3
    cases h
    have hl:((c::u).take (numN (c::u))).length=numN (c::u):=(by rw[List.length_take];exact Nat.min_eq_left hn);have e:=hcons (numN (c::u)) (by omega);have hnm:=num_ext (s:=c::u) rfl h3 hr;have hsg:sgC c.toNat ((c::u).take (numN (c::u))++r)=sgC c.toNat (c::u):=by
     unfold sgC;by_cases hlt:1 < numN (c::u)
     ·rw[get_ext r hlt hn]
     ·have hN1:numN (c::u)=1:=(by omega);have hdg:dgU c.toNat=true:=by
       rw[Bool.or_eq_true]at h2;rcases h2 with h2|h2
       ·exact h2
       ·exfalso;have h5:=num_first c u (by rw[h2];simp);have h6:num1T (c::u) (sgnN (c::u)+(tw ((c::u).drop (sgnN (c::u)))).length)=1:=hN1;obtain⟨h7,-⟩:=cutP_take h6 (by decide);have h8:=List.length_pos_iff.2 h5;have h9:sgnN (c::u)=1:=by
         unfold sgC at h2;rw[Bool.and_eq_true,Bool.or_eq_true,beq_iff_eq,beq_iff_eq]at h2;show(if isSg c=true then 1 else 0)=1;rw[if_pos ((isSg_iff c).2 (h2.1.imp (fun h=>UInt8.toNat.inj h) (fun h=>UInt8.toNat.inj h)))]
        omega
      have:(c.toNat == 43 || c.toNat == 45)=false:=by
       rw[dgU_iff]at hdg;rw[Bool.or_eq_false_iff,beq_eq_false_iff_ne,beq_eq_false_iff_ne];omega
      rw[this];rfl
    show tokR ((c::u).take (numN (c::u))++r)=.good 2 _ ((c::u).take (numN (c::u))).length;rw[hl];rw[e]at hsg hnm ⊢;rw[tok_bytes,if_neg h1,hsg,if_pos h2,hnm,if_neg h3,← e,List.take_left' hl]
  ·rename_i h2
   split at h
   ·rename_i h3
    have hk:k=3:=by
     unfold textR at h;split at h
     ·cases h
     ·split at h
      ·split at h<;>cases h
      ·cases h;rfl
    have hm:=textR_may h;subst hk;show tokR (quoL t++r)=.good 3 t (quoL t).length;have e:quoL t++r=34::((escQ t++[34])++r):=rfl;rw[e,tok_bytes,if_neg (by decide),if_neg (by simp[sgC,dgU]),if_pos rfl,← e];exact textR_quo hm r
   ·rename_i h3
    have hc2:dgU c.toNat=false:=(by rw[Bool.not_eq_true,Bool.or_eq_false_iff]at h2;exact h2.1);split at h
    ·rename_i h4
     cases h
     show tokR ([c]++r)=.good 4 [c] 1;have hs2:sgC c.toNat (c::r)=false:=by
      unfold sgC;have:(c.toNat == 43 || c.toNat == 45)=false:=by
       rw[Bool.or_eq_false_iff,beq_eq_false_iff_ne,beq_eq_false_iff_ne];constructor<;>intro h5<;>rw[h5]at h4<;>exact absurd h4 (by decide)
      rw[this];rfl
     rw[show [c]++r=c::r from rfl,tok_bytes,if_neg h1,hc2,hs2,if_neg (by decide),if_neg h3,if_pos h4]
    ·rename_i h4
     split at h
     ·rename_i h5
      cases h
      have hl3:=ordB_len h5;have hl:((c::u).take 3).length=3:=(by rw[List.length_take];omega);have e:=hcons 3 (by decide);have ho:ordB ((c::u).take 3++r)=true:=by
       unfold ordB at h5 ⊢;rw[List.take_left' hl];exact h5
      have hc64:c=64:=by
       unfold ordB at h5;simp only[Bool.or_eq_true,beq_iff_eq,List.take_succ_cons]at h5;rcases h5 with ((h5|h5)|h5)|h5<;>exact(List.cons.inj h5).1
      show tokR ((c::u).take 3++r)=.good 4 _ ((c::u).take 3).length;rw[hl];have hs2:sgC c.toNat ((c::u).take 3++r)=false:=(by rw[hc64];rfl);rw[e]at ho hs2 ⊢;rw[tok_bytes,if_neg h1,hc2,hs2,if_neg (by decide),if_neg h3,if_neg h4,if_pos ho,← e,List.take_left' hl]
     ·cases h
theorem tw_long {p:UInt8→Bool} (r:List UInt8):∀ (X:List UInt8) (k:Nat),(X.takeWhile p).length < k→k≤X.length→(X.take k++r).takeWhile p=X.takeWhile p:=by
 intro X
 induction X with
 | nil=>intro k hk hx;simp at hx;omega
 | cons c t ih=>
  intro k hk hx;rw[List.takeWhile_cons]at hk ⊢;cases k with
  | zero=>omega
  | succ k=>
   rw[List.take_succ_cons,List.cons_append,List.takeWhile_cons];cases hc:p c
   ·rfl
   ·rw[hc]at hk;simp only[if_true,List.length_cons]at hk hx ⊢;rw[ih k (by omega) (by omega)]
theorem num3_long {s:List UInt8} (r:List UInt8) {N n:Nat} (hn:n < N) (hN:N≤s.length):num3T (s.take N++r) n=num3T s n:=by
 unfold num3T;rw[get_ext r hn hN]
theorem num2_long {s:List UInt8} (r:List UInt8) {N n m:Nat} (h:num2T s n=m) (h0:m≠0) (hm:m < N) (hnm:n≤m) (hN:N≤s.length):num2T (s.take N++r) n=m:=by
 have hn:n < s.length:=(by omega);have h':=h;unfold num2T at h' ⊢;rw[get_ext r (show n < N by omega) hN];rw[at_some hn]at h' ⊢;simp only at h' ⊢;split at h'
 ·rename_i hE
  split at h'
  ·exact absurd h'.symm h0
  ·rename_i htw
   have hNe:=num3_nz h' h0;have hpos:0 < (tw (s.drop (n+1+sgnN (s.drop (n+1))))).length:=List.length_pos_iff.2 htw;have e1:sgnN ((s.take N++r).drop (n+1))=sgnN (s.drop (n+1)):=sgn_ext r (by omega) hN;have e2:tw ((s.take N++r).drop (n+1+sgnN (s.drop (n+1))))=tw (s.drop (n+1+sgnN (s.drop (n+1)))):=by
    rw[drop_ext r (by omega) hN];exact tw_long r _ _ (by show(tw _).length < _;omega) (by rw[List.length_drop];omega)
   rw[if_pos hE,e1,e2,if_neg htw,num3_long r (by omega) hN];exact h'
 ·rename_i hE
  rw[if_neg hE,num3_long r (by omega) hN];exact h'
theorem num1_long {s:List UInt8} (r:List UInt8) {N n m:Nat} (h:num1T s n=m) (h0:m≠0) (hm:m < N) (hnm:n≤m) (hN:N≤s.length):num1T (s.take N++r) n=m:=by
 have hn:n < s.length:=(by omega);have h':=h;unfold num1T at h' ⊢;rw[get_ext r (show n < N by omega) hN];rw[at_some hn]at h' ⊢;simp only at h' ⊢;split at h'
 ·rename_i hE
  split at h'
  ·exact absurd h'.symm h0
  ·rename_i htw
   obtain⟨h1,-⟩:=cutE_take h' h0;have e2:tw ((s.take N++r).drop (n+1))=tw (s.drop (n+1)):=by
    rw[drop_ext r (by omega) hN];exact tw_long r _ _ (by show(tw _).length < _;omega) (by rw[List.length_drop];omega)
   rw[if_pos hE,e2,if_neg htw];exact num2_long r h' h0 hm (by omega) hN
 ·rename_i hE
  rw[if_neg hE];exact num2_long r h' h0 hm hnm hN
theorem num_long {s:List UInt8} (r:List UInt8) {N m:Nat} (h:numN s=m) (h0:m≠0) (hm:m < N) (hN:N≤s.length):numN (s.take N++r)=m:=by
 have h1:num1T s (sgnN s+(tw (s.drop (sgnN s))).length)=m:=h;obtain⟨h2,-⟩:=cutP_take h1 h0;have e1:sgnN (s.take N++r)=sgnN s:=by
  have:=sgn_ext (j:=0) r (by omega) hN
  simpa using this
 unfold numN;rw[e1,drop_ext r (by omega) hN,show tw ((s.drop (sgnN s)).take (N - sgnN s)++r)=tw (s.drop (sgnN s))from tw_long r _ _ (by show(tw _).length < _;omega) (by rw[List.length_drop];omega)];exact num1_long r h1 h0 hm (by omega) hN
theorem endQ_ge:∀ (l:List UInt8) (b:Bool) (j i:Nat),endQ b j l=some i→j≤i
 | [],b,j,i,h=>by rw[endQ_nil]at h;cases h
 | c::t,true,j,i,h=>by have:=endQ_ge t false (j+1) i h;omega
 | c::t,false,j,i,h=>by
  unfold endQ at h;split at h
  ·have:=endQ_ge t true (j+1) i h;omega
  ·split at h
   ·cases h;exact lrf
   ·have:=endQ_ge t false (j+1) i h;omega
theorem endQ_long (r:List UInt8):∀ (l:List UInt8) (b:Bool) (j i k:Nat),endQ b j l=some i→i - j < k→endQ b j (l.take k++r)=some i
 | [],b,j,i,k,h,hk=>by rw[endQ_nil]at h;cases h
 | c::t,b,j,i,0,h,hk=>absurd hk (by omega)
 | c::t,true,j,i,k+1,h,hk=>by
  have h':endQ false (j+1) t=some i:=h;have:=endQ_ge t false (j+1) i h';rw[List.take_succ_cons,List.cons_append];exact endQ_long r t false (j+1) i k h' (by omega)
 | c::t,false,j,i,k+1,h,hk=>by
  rw[List.take_succ_cons,List.cons_append];unfold endQ at h ⊢;split at h
  ·rename_i h1
   have:=endQ_ge t true (j+1) i h;rw[if_pos h1];exact endQ_long r t true (j+1) i k h (by omega)
  ·rename_i h1
   rw[if_neg h1];split at h
   ·rename_i h2
    rw[if_pos h2];exact h
   ·rename_i h2
    have:=endQ_ge t false (j+1) i h;rw[if_neg h2];exact endQ_long r t false (j+1) i k h (by omega)
theorem textR_long {s:List UInt8} (r:List UInt8) {k:Int} {t:List UInt8} {m N:Nat} (h:textR s=.good k t m) (hm:m≤N) (hN:N≤s.length) (h2:0 < N):textR (s.take N++r)=.good k t m:=by
 unfold textR at h ⊢;cases he:endQ false 1 (s.drop 1)with
 | none=>rw[he]at h;cases h
 | some i=>
  rw[he]at h;simp only at h;have hi:=endQ_ge _ _ _ _ he;have hmi:m=i+1:=by
   revert h;cases unqL (s.take (i+1))with
   | bad n=>intro h;simp only at h;split at h<;>cases h
   | good t=>intro h;cases h;rfl
  rw[drop_ext r (by omega) hN,endQ_long r _ _ _ _ _ he (by omega)];simp only;rw[List.take_append_of_le_length (by rw[List.length_take];omega),List.take_take,Nat.min_eq_left (by omega)];exact h
theorem tok_long {s:List UInt8} (hne:s≠[]) {k:Int} {t:List UInt8} {m N:Nat} (h:tokR s=.good k t m) (hm:m < N) (hN:N≤s.length) (r:List UInt8):tokR (s.take N++r)=.good k t m:=by
 obtain⟨c,u,rfl⟩:=List.exists_cons_of_ne_nil hne;have hb:=tok_bytes c u;rw[hb]at h;have e:(c::u).take N++r=c::(u.take (N - 1)++r):=by
  rw[show N=(N - 1)+1 by omega,List.take_succ_cons];rfl
 have htk:∀ j,j≤N→((c::u).take N++r).take j=(c::u).take j:=fun j hj=>by
  rw[List.take_append_of_le_length (by rw[List.length_take];omega),List.take_take,Nat.min_eq_left hj]
 have hsg:1 < N→sgC c.toNat ((c::u).take N++r)=sgC c.toNat (c::u):=fun h1=>by
  unfold sgC;rw[get_ext r h1 hN]
 split at h
 ·rename_i h1
  cases h
  have hnm:nameN ((c::u).take N++r)=nameN (c::u):=by
   show(List.takeWhile ldC _).length=_;rw[tw_long r _ _ hm hN];rfl
  rw[← htk _ (Nat.le_of_lt hm),← hnm];rw[e,tok_bytes,if_pos h1]
 ·rename_i h1
  split at h
  ·rename_i h2
   split at h
   ·cases h
   ·rename_i h3
    cases h
    have hnm:=num_long (s:=c::u) r rfl h3 hm hN;have hs:=hsg (by omega);rw[← htk _ (Nat.le_of_lt hm)];rw[e]at hs hnm ⊢;rw[tok_bytes,if_neg h1,hs,if_pos h2,hnm,if_neg h3]
  ·rename_i h2
   have hs2:1 < N→¬ (dgU c.toNat || sgC c.toNat (c::(u.take (N - 1)++r)))=true:=fun h1=>by rw[← e,hsg h1];exact h2
   split at h
   ·rename_i h3
    have hm1:1≤m:=by
     unfold textR at h;split at h
     ·cases h
     ·split at h
      ·split at h<;>cases h
      ·cases h;omega
    have:=textR_long r h (Nat.le_of_lt hm) hN (by omega);rw[e]at this ⊢;rw[tok_bytes,if_neg h1,if_neg (hs2 (by omega)),if_pos h3];exact this
   ·rename_i h3
    split at h
    ·rename_i h4
     cases h
     rw[e,tok_bytes,if_neg h1,if_neg (hs2 hm),if_neg h3,if_pos h4]
    ·rename_i h4
     split at h
     ·rename_i h5
      cases h
      have ho:ordB ((c::u).take N++r)=true:=by
       unfold ordB at h5 ⊢;rw[htk 3 (by omega)];exact h5
      rw[← htk 3 (by omega)];rw[e]at ho ⊢;rw[tok_bytes,if_neg h1,if_neg (hs2 (by omega)),if_neg h3,if_neg h4,if_pos ho]
     ·cases h
theorem tok_cut3 {s:List UInt8} (hne:s≠[]) {t:List UInt8} {m:Nat} (h:tokR s=.good 3 t m) (hN:m≤s.length) (r:List UInt8):tokR (s.take m++r)=.good 3 t m:=by
 obtain⟨c,u,rfl⟩:=List.exists_cons_of_ne_nil hne;have hb:=tok_bytes c u;rw[hb]at h;split at h
 ·cases h
 ·split at h
  ·split at h<;>cases h
  ·split at h
   ·rename_i h3
    subst h3;have hm1:1≤m:=by
     unfold textR at h;split at h
     ·cases h
     ·split at h
      ·split at h<;>cases h
      ·cases h;omega
    have e:(34::u).take m++r=34::(u.take (m - 1)++r):=by
     rw[show m=(m - 1)+1 by omega,List.take_succ_cons];rfl
    have:=textR_long r h lrf hN (by omega);rw[e]at this ⊢;rw[tok_bytes,if_neg (by decide),if_neg (by simp[sgC,dgU]),if_pos rfl];exact this
   ·split at h
    ·cases h
    ·split at h<;>cases h
theorem tok_cut {s:List UInt8} (hne:s≠[]) {k:Int} {t:List UInt8} {m N:Nat} (h:tokR s=.good k t m) (hm:m≤N) (hN:N≤s.length) {r:List UInt8} (hr:m < N∨BlL r):tokR (s.take N++r)=.good k t m:=by
 rcases hr with h1|h1
 ·exact tok_long hne h h1 hN r
 ·rcases Nat.lt_or_eq_of_le hm with h2|rfl
  ·exact tok_long hne h h2 hN r
  ·by_cases hk:k=3
   ·subst hk;exact tok_cut3 hne h hN r
   ·have h3:=tok_piece hne h h1;rw[show pieceT k t=t from if_neg hk,tok_text h hk]at h3;rw[h3,List.length_take,Nat.min_eq_left hN,tok_text h hk]
theorem decN_trunc {n b0 b1 b2 b3 c1 c2 c3:Nat} (hn:1≤n) (e1:2≤(Lib.decodeN n b0 b1 b2 b3).2→c1=b1) (e2:3≤(Lib.decodeN n b0 b1 b2 b3).2→c2=b2) (e3:4≤(Lib.decodeN n b0 b1 b2 b3).2→c3=b3)
  (hill:¬ ((Lib.decodeN n b0 b1 b2 b3).1=65533∧(Lib.decodeN n b0 b1 b2 b3).2=1)):Lib.decodeN (Lib.decodeN n b0 b1 b2 b3).2 b0 c1 c2 c3=Lib.decodeN n b0 b1 b2 b3:=by
 by_cases h1:b0 < 128
 ·have e:∀ m x y z,Lib.decodeN m b0 x y z=(b0,1):=fun m x y z=>by unfold Lib.decodeN;rw[if_pos h1]
  rw[e,e]
 obtain⟨R,k,e⟩:∃ R k,Lib.decodeN n b0 b1 b2 b3=(R,k):=⟨_,_,rfl⟩
 rw[e]at e1 e2 e3 hill ⊢;simp only at e1 e2 e3 hill ⊢;unfold Lib.decodeN at e ⊢;rw[if_neg h1]at e ⊢;split at e
 ·rename_i h2
  split at e
  ·rename_i h3
   cases e
   obtain rfl:=e1 (by decide);rw[if_pos ⟨h2.1,by decide,h2.2.2⟩,if_pos h3]
  ·cases e;exact absurd ⟨rfl,rfl⟩ hill
 rename_i h2
 split at e
 ·rename_i h3
  split at e
  ·rename_i h4
   cases e
   obtain rfl:=e1 (by decide);obtain rfl:=e2 (by decide);rw[if_neg (by omega),if_pos (by omega),if_pos h4]
  ·cases e;exact absurd ⟨rfl,rfl⟩ hill
 rename_i h3
 split at e
 ·rename_i h4
  split at e
  ·rename_i h5
   cases e
   obtain rfl:=e1 (by decide);obtain rfl:=e2 (by decide);obtain rfl:=e3 (by decide);rw[if_neg (by omega),if_neg (by omega),if_pos (by omega),if_pos h5]
  ·cases e;exact absurd ⟨rfl,rfl⟩ hill
 ·cases e;exact absurd ⟨rfl,rfl⟩ hill
theorem take_ne {s:List UInt8} {n:Nat} (h1:1≤n) (h2:n≤s.length):s.take n≠[]:=by
 intro h0;have h:=congrArg List.length h0;rw[List.length_take,Nat.min_eq_left h2]at h;have h3:n=0:=h;omega
theorem dec_self (s:List UInt8) (hne:s≠[]) (hill:illU (decL s).1 (decL s).2=false):decL (s.take (decL s).2)=decL s:=by
 have hpos:0 < s.length:=List.length_pos_iff.2 hne;have hw:=dec_w s;have hw2:=hw.2.2 hne;have hi:¬ ((decL s).1=65533∧(decL s).2=1):=by
  rintro⟨h1,h2⟩;unfold illU at hill;rw[h1,h2]at hill;exact absurd hill (by decide)
 have hg:∀ j,j < (decL s).2→(s.take (decL s).2).getD j 0=s.getD j 0:=fun j hj=>by
  rw[List.getD_eq_getElem?_getD,List.getElem?_take,if_pos hj,List.getD_eq_getElem?_getD]
 have hl:(s.take (decL s).2).length=(decL s).2:=(by rw[List.length_take];omega);have key:decL (s.take (decL s).2)=Lib.decodeN (decL s).2 (s.getD 0 0).toNat ((s.take (decL s).2).getD 1 0).toNat ((s.take (decL s).2).getD 2 0).toNat ((s.take (decL s).2).getD 3 0).toNat:=by
  show Lib.decodeN _ _ _ _ _=_;rw[hl,hg 0 (by omega)]
 rw[key];exact decN_trunc hpos (fun h=>by rw[hg 1 h]) (fun h=>by rw[hg 2 h]) (fun h=>by rw[hg 3 h]) hi
theorem Bnd.fine {s:List UInt8} {p q:Int×Int} {n:Nat} (h:Bnd s p n q):fineF s.length s→fineF n (s.take n)∧fineF (s.length - n) (s.drop n):=by
 induction h with
 | zero s p=>intro hf;exact⟨fine_nil _,by simpa using hf⟩
 | step s p n q hne h ih=>
  intro hf;have hw:=dec_w s;have hw2:=hw.2.2 hne;have hf':=hf;rw[show s.length=(s.length - 1)+1 by have:=List.length_pos_iff.2 hne;omega,fine_cons hne]at hf';have hd:fineF (s.drop (decL s).2).length (s.drop (decL s).2):=fine_fuel _ _ _ (by rw[List.length_drop];omega) lrf hf'.2;obtain⟨i1,i2⟩:=ih hd;have hn:=h.le;rw[List.length_drop]at hn i2;constructor
  ·have e:s.take ((decL s).2+n)=s.take (decL s).2++(s.drop (decL s).2).take n:=(by rw[List.take_add]);have hu:fineF (decL s).2 (s.take (decL s).2):=by
    have hne2:s.take (decL s).2≠[]:=take_ne hw.1 hw2;rw[show(decL s).2=((decL s).2 - 1)+1 by omega,fine_cons (by rw[show(decL s).2 - 1+1=(decL s).2 by omega];exact hne2)];rw[show(decL s).2 - 1+1=(decL s).2 by omega,dec_self s hne (bad_ill hf'.1)];exact⟨hf'.1,by rw[List.drop_take,Nat.sub_self,List.take_zero];exact fine_nil _⟩
   rw[e];refine fine_app _ _ _ _ (by rw[List.length_take];omega) (by rw[List.length_append,List.length_take,List.length_take];omega) hu ?_;exact fine_fuel _ _ _ (by rw[List.length_take];omega) lrf i1
  ·rw[← List.drop_drop];rw[show s.length - ((decL s).2+n)=s.length - (decL s).2 - n by omega];exact i2
theorem fine_one (c:UInt8) (h:c.toNat < 128) (hb:badU c.toNat 1=false):fineF 1 [c]:=by
 rw[fine_cons (List.cons_ne_nil _ _),dec_ascii c [] h];exact⟨hb,fine_nil _⟩
theorem scanL_good' {s:List UInt8} {l:List TokD} (h:scanL s=.good l):fineF s.length s:=by
 rw[← check_fine];unfold scanL at h;split at h
 ·cases h
 ·split at h
  ·assumption
  ·cases h
theorem chain_low {s:List UInt8} {n:Nat} {l:List TokD} (h:Chain s n l):∀ (A B:List TokD),l=A++B→B≠[]→∀ N,Bnd s (1,1) N ((headT B).line,(headT B).col)→n+A.length≤N:=by
 induction h with
 | fin n q hn hb=>
  intro A B e hB N hN;rcases A with _|⟨a,A⟩
  ·rw[List.nil_append]at e;subst e;have h1:N=s.length:=hN.uniq hb;simp only[List.length_nil];omega
  ·have h1:=congrArg List.length e;simp only[List.length_append,List.length_cons,List.length_nil]at h1;exact absurd (List.length_eq_zero_iff.1 (by omega)) hB
 | tok n i m t r hn hi hb ht hm hr ih=>
  intro A B e hB N hN;rcases A with _|⟨a,A⟩
  ·rw[List.nil_append]at e;subst e;have h1:N=i:=hN.uniq hb;simp only[List.length_nil];omega
  ·rw[List.cons_append,List.cons.injEq]at e;have:=ih A B e.2 hB N hN;simp only[List.length_cons];omega
theorem chain_last {s:List UInt8} {n:Nat} {l:List TokD} (h:Chain s n l):∀ (A:List TokD) (e:TokD),l=A++[e]→Bnd s (1,1) s.length (e.line,e.col):=by
 induction h with
 | fin n q hn hb=>
  intro A e he;rcases A with _|⟨a,A⟩
  ·rw[List.nil_append,List.cons.injEq]at he;rw[← he.1];exact hb
  ·have h1:=congrArg List.length he;simp at h1
 | tok n i m t r hn hi hb ht hm hr ih=>
  intro A e he;rcases A with _|⟨a,A⟩
  ·rw[List.nil_append,List.cons.injEq]at he;have h1:=hr.ne;rw[he.2]at h1;simp at h1
  ·rw[List.cons_append,List.cons.injEq]at he;exact ih A e he.2
theorem drop_head {O:List UInt8} {j:Nat} {x:UInt8} {m:List UInt8} (h:O.drop j=x::m):∃ hj:j < O.length,O[j]=x∧O.drop (j+1)=m:=by
 have hlt:j < O.length:=by
  rcases Nat.lt_or_ge j O.length with h1|h1
  ·exact h1
  ·rw[List.drop_eq_nil_of_le h1]at h;cases h
 have h2:=List.drop_eq_getElem_cons hlt;rw[h]at h2;obtain⟨e1,e2⟩:=List.cons.inj h2;exact⟨hlt,e1.symm,e2.symm⟩
theorem walk_front {s:List UInt8} {V:ScanR} {T B:List TokD} (hV:V=.good T) (hB:B≠[]) {N:Nat} (hN:Bnd s (1,1) N ((headT B).line,(headT B).col)) {r:List UInt8} (hr:BlL r) {O:List UInt8} {W:ScanR} :
  ∀ (f i:Nat) (acc:List TokD) (q:Int×Int) (A:List TokD) (j:Nat) (acc':List TokD) (p:Int×Int),N - i≤f→RefI s V i acc q→T=acc++(A++B)→RefI O W j acc' p→O.drop j=(s.drop i).take (N - i)++r →
  ∃ (A':List TokD) (q' p':Int×Int),i≤N∧RefI s V N (acc++A) q'∧RefI O W (j+(N - i)) (acc' ++ A') p'∧SameL A A':=by
 have low:∀ (i:Nat) (acc:List TokD) (q:Int×Int) (A:List TokD),RefI s V i acc q→T=acc++(A++B)→i+A.length≤N:=fun i acc q A h hT=>by
  obtain⟨R,h1,h2⟩:=RefI.chain hV _ i acc q lrf h;rw[hT]at h1;exact chain_low h2 A B (List.append_cancel_left h1).symm hB N hN
 have done:∀ (i:Nat) (acc:List TokD) (q:Int×Int) (A:List TokD) (j:Nat) (acc':List TokD) (p:Int×Int),N≤i→RefI s V i acc q→T=acc++(A++B)→RefI O W j acc' p →
   ∃ (A':List TokD) (q' p':Int×Int),i≤N∧RefI s V N (acc++A) q'∧RefI O W (j+(N - i)) (acc' ++ A') p'∧SameL A A':=fun i acc q A j acc' p hi h hT h2=>by
  have h3:=low i acc q A h hT;have h4:A=[]:=List.length_eq_zero_iff.1 (by omega);subst h4;have h5:i=N:=(by simp only[List.length_nil]at h3;omega);subst h5;exact⟨[],q,p,lrf,by rw[List.append_nil];exact h,by rw[List.append_nil,Nat.sub_self];exact h2,rfl⟩
 intro f
 induction f with
 | zero=>intro i acc q A j acc' p hf h hT h2 hO;exact done i acc q A j acc' p (by omega) h hT h2
 | succ f ih=>
  intro i acc q A j acc' p hf h hT h2 hO;by_cases hi:N≤i
  ·exact done i acc q A j acc' p hi h hT h2
  have hNs:=hN.le;have hlt:i < s.length:=(by omega);have hd:=List.drop_eq_getElem_cons hlt;have hO2:O.drop j=s[i]::((s.drop (i+1)).take (N - (i+1))++r):=by
   rw[hO,hd,show N - i=(N - (i+1))+1 by omega,List.take_succ_cons,List.cons_append]
  obtain⟨hj,e1,e2⟩:=drop_head hO2;cases hb:blankU s[i].toNat
  ·obtain⟨R,h1,hc⟩:=RefI.chain hV _ i acc q lrf h;cases ht:tokR (s.drop i)with
   | bad e=>
    have h9:=h.bad hlt hb ht;rw[hV]at h9;cases h9
   | good k t m=>
    obtain⟨hm,q',hg⟩:=h.good hlt hb ht;obtain⟨R2,h3,h4⟩:=RefI.chain hV _ (i+m) _ q' lrf hg;rw[hT,List.append_assoc]at h3;have h5:A++B=[⟨k,t,q.1,q.2⟩]++R2:=List.append_cancel_left h3;rcases A with _|⟨a,A⟩
    ·rw[List.nil_append]at h5;subst h5;have h6:N=i:=hN.uniq h.hb;omega
    ·rw[List.cons_append,List.singleton_append,List.cons.injEq]at h5;obtain⟨h6,h7⟩:=h5;subst h6;have hT2:T=acc++[⟨k,t,q.1,q.2⟩]++(A++B):=(by rw[hT];simp);have h8:=low _ _ _ _ hg hT2;have hne0:s.drop i≠[]:=(by rw[hd];exact List.cons_ne_nil _ _);have htc:=tok_cut hne0 ht (N:=N - i) (by omega) (by rw[List.length_drop];omega) (r:=r) (.inr hr);rw[← hO]at htc;obtain⟨-,p',hp⟩:=h2.good hj (by rw[e1];exact hb) htc;have hO3:O.drop (j+m)=(s.drop (i+m)).take (N - (i+m))++r:=by
      rw[← List.drop_drop,hO,List.drop_append_of_le_length (by rw[List.length_take,List.length_drop];omega),List.drop_take,List.drop_drop,show N - i - m=N - (i+m)by omega]
     obtain⟨A',q2,p2,h9,h10,h11,h12⟩:=ih (i+m) _ q' A (j+m) _ p' (by omega) hg hT2 hp hO3;refine⟨⟨k,t,p.1,p.2⟩::A',q2,p2,by omega,?_,?_,?_⟩
     ·simpa using h10
     ·rw[show j+(N - i)=j+m+(N - (i+m))by omega]
      simpa using h11
     ·show(k,t)::A.map ekT=(k,t)::A'.map ekT;rw[show A.map ekT=A'.map ekT from h12]
  ·obtain⟨q',h3⟩:=h.blank hlt hb;obtain⟨p',h4⟩:=h2.blank hj (by rw[e1];exact hb);obtain⟨A',q2,p2,h5,h6,h7,h8⟩:=ih (i+1) acc q' A (j+1) acc' p' (by omega) h3 hT h4 e2;exact⟨A',q2,p2,by omega,h6,by rw[show j+(N - i)=j+1+(N - (i+1))by omega];exact h7,h8⟩
theorem walk_back {s:List UInt8} {V:ScanR} {T:List TokD} (hV:V=.good T) {O:List UInt8} {W:ScanR} :
  ∀ (f i:Nat) (acc:List TokD) (q:Int×Int) (j:Nat) (acc':List TokD) (p:Int×Int),s.length - i≤f→RefI s V i acc q→RefI O W j acc' p→O.drop j=s.drop i →
  ∃ (B B':List TokD),T=acc++B∧W=.good (acc' ++ B')∧SameL B B':=by
 have done:∀ (i:Nat) (acc:List TokD) (q:Int×Int) (j:Nat) (acc':List TokD) (p:Int×Int),i=s.length→RefI s V i acc q→RefI O W j acc' p→O.drop j=s.drop i →
   ∃ (B B':List TokD),T=acc++B∧W=.good (acc' ++ B')∧SameL B B':=fun i acc q j acc' p hi h h2 hO=>by
  have h3:=h.fin hi;rw[hV]at h3;injection h3 with h3
  rw[hi,List.drop_length]at hO;have h4:=List.drop_eq_nil_iff.1 hO;have h5:=h2.hk;exact⟨[endTok q],[endTok p],h3,h2.fin (by omega),rfl⟩
 intro f
 induction f with
 | zero=>intro i acc q j acc' p hf h h2 hO;exact done i acc q j acc' p (by have:=h.hk;omega) h h2 hO
 | succ f ih=>
  intro i acc q j acc' p hf h h2 hO;by_cases hlt:i < s.length
  ·have hd:=List.drop_eq_getElem_cons hlt;rw[hd]at hO;obtain⟨hj,e1,e2⟩:=drop_head hO;cases hb:blankU s[i].toNat
   ·cases ht:tokR (s.drop i)with
    | bad e=>
     have h9:=h.bad hlt hb ht;rw[hV]at h9;cases h9
    | good k t m=>
     obtain⟨hm,q',hg⟩:=h.good hlt hb ht;rw[← hd]at hO;obtain⟨-,p',hp⟩:=h2.good hj (by rw[e1];exact hb) (by rw[hO];exact ht);obtain⟨B,B',h3,h4,h5⟩:=ih (i+m) _ q' (j+m) _ p' (by omega) hg hp (by rw[← List.drop_drop,hO,List.drop_drop]);refine⟨⟨k,t,q.1,q.2⟩::B,⟨k,t,p.1,p.2⟩::B',by rw[h3];simp,by rw[h4];simp,?_⟩;show(k,t)::B.map ekT=(k,t)::B'.map ekT;rw[show B.map ekT=B'.map ekT from h5]
   ·obtain⟨q',h3⟩:=h.blank hlt hb;obtain⟨p',h4⟩:=h2.blank hj (by rw[e1];exact hb);exact ih (i+1) acc q' (j+1) acc' p' (by omega) h3 h4 e2
  ·exact done i acc q j acc' p (by have:=h.hk;omega) h h2 hO
theorem ref_start {O:List UInt8} (hl:O.length≤1048576) (hf:fineF O.length O):RefI O (scanL O) 0 [] (1,1):=by
 refine⟨Nat.zero_le _,.zero _ _,?_⟩;have hc:=(check_fine O).2 hf;show scanL O=_;unfold scanL;rw[if_neg (by omega),hc];rfl
theorem ref_good {s:List UInt8} {T:List TokD} (h:scanL s=.good T):RefI s (scanL s) 0 [] (1,1)∧s.length≤1048576:=by
 rcases checkV_or s with ⟨_,h1,h3⟩|⟨_,_,_,h3⟩
 ·exact⟨⟨Nat.zero_le _,.zero _ _,h3⟩,h1⟩
 ·rw[h]at h3;cases h3
theorem ins_scan {s:List UInt8} {T A B:List TokD} (h:scanL s=.good T) (hT:T=A++B) (hB:B≠[]) {N:Nat} (hN:Bnd s (1,1) N ((headT B).line,(headT B).col)) (hlen:s.length≤524288) {c1:List UInt8} {C:List TokD} {e:TokD} (hc:scanL c1=.good (C++[e])) {u:List UInt8} (c0:c1=32::u) (hcl:c1.length≤1000) :
  ∃ A' C' B',scanL (s.take N++((c1++[32])++s.drop N))=.good (A' ++ (C' ++ B'))∧SameL A A'∧SameL C C'∧SameL B B':=by
 have hNs:=hN.le;obtain⟨hs0,-⟩:=ref_good h;obtain⟨hc0,-⟩:=ref_good hc;have hfs:=scanL_good' h;have hfc:=scanL_good' hc;obtain⟨f1,f2⟩:=hN.fine hfs;have hf:fineF (s.take N++((c1++[32])++s.drop N)).length (s.take N++((c1++[32])++s.drop N)):=by
  refine fine_app _ _ _ _ (by rw[List.length_take];omega) lrf f1 ?_;refine fine_app (c1++[32]).length _ _ _ lrf lrf ?_ ?_
  ·exact fine_app _ _ _ _ lrf lrf hfc (fine_one 32 (by decide) (by decide))
  ·rw[List.length_drop];exact f2
 have hO0:=ref_start (by simp only[List.length_append,List.length_take,List.length_drop,List.length_cons,List.length_nil];omega) hf;obtain⟨O,hO⟩:∃ O,O=s.take N++((c1++[32])++s.drop N):=⟨_,rfl⟩
 rw[← hO]at hO0 ⊢;obtain⟨A',q1,p1,-,h1,h2,h3⟩:=walk_front h hB hN (r:=(c1++[32])++s.drop N) (.inr ⟨32,(u++[32])++s.drop N,by rw[c0];rfl,by decide⟩) (N - 0) 0 [] (1,1) A 0 [] (1,1) lrf hs0 (by rw[hT];rfl) hO0 (by rw[hO,List.drop_zero,List.drop_zero,Nat.sub_zero]);rw[Nat.sub_zero,Nat.zero_add,List.nil_append]at h2;rw[List.nil_append]at h1;have hlN:(s.take N).length=N:=(by rw[List.length_take];omega);have hce:=chain_last (scanL_chain hc) C e rfl;have hd1:O.drop N=c1++(32::s.drop N):=by
  rw[hO,List.drop_append_of_le_length (by omega),List.drop_eq_nil_of_le (by omega),List.nil_append,List.append_assoc];rfl
 obtain⟨C',q2,p2,-,-,h4,h5⟩:=walk_front hc (List.cons_ne_nil e []) (N:=c1.length) hce (r:=32::s.drop N) (.inr ⟨32,s.drop N,rfl,by decide⟩) (c1.length - 0) 0 [] (1,1) C N A' p1 lrf hc0 rfl h2 (by rw[hd1,List.drop_zero,Nat.sub_zero,List.take_length]);rw[Nat.sub_zero]at h4;have hd2:O.drop (N+c1.length)=32::s.drop N:=(by rw[← List.drop_drop,hd1,List.drop_left]);obtain⟨hj,e1,e2⟩:=drop_head hd2;obtain⟨p3,h6⟩:=h4.blank hj (by rw[e1];decide);obtain⟨B2,B',h7,h8,h9⟩:=walk_back h s.length N A q1 (N+c1.length+1) (A' ++ C') p3 (by omega) h1 h6 e2;rw[hT]at h7;have h10:=List.append_cancel_left h7;subst h10;exact⟨A',C',B',by rw[h8,List.append_assoc],h3,h5,h9⟩
theorem comm_const {C C' B':List TokD} {e:TokD} (he:e.kind=0) (hC:SameL C C') (hc:commF (C.length+1) (C++[e])=.ok () [e]) (hB:seesB [67,77,95] B' = false) (f:Nat) (hf:(C' ++ B').length≤f):commF f (C' ++ B')=.ok () B':=by
 obtain⟨k,hk,hr,h2⟩:=comm_pre [e] B' B' (by unfold seesB;show(_ && (e.kind == 1 || e.kind == 4))=false;rw[he];simp) (fun f hf=>by
  cases f with
  | zero=>rfl
  | succ f=>rw[commF_succ,if_neg (by rw[hB];decide)]) (C.length+1) f C C' [e] hC hc lrf (by simp) hf
 have h3:=congrArg List.length hr;simp only[List.length_append,List.length_drop,List.length_cons,List.length_nil]at h3;rw[h2,if_pos (by omega)]
end Go.Proofs.YtjgjckipfkkgiaaGreatDoor
