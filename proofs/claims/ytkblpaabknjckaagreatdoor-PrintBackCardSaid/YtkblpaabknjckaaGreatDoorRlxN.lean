/-
  Plain: a number by bytes, at a place of a text.
-/
import Derived.Test.YtkblpaabknjckaaGreatDoorBaseD
import Derived.Test.YtkblpaabknjckaaGreatDoorLexG
import Derived.Test.YtkblpaabknjckaaGreatDoorLexB
set_option maxHeartbeats 128000000
set_option linter.unusedVariables false
namespace Go.Proofs.YtkblpaabknjckaaGreatDoor
open Go.RowKit Go.Shelf
theorem tw_app {p:UInt8→Bool} (x:UInt8) (m:List UInt8) (hx:p x=false):∀ s:List UInt8,(s++x::m).takeWhile p=s.takeWhile p
 | []=>by rw[List.nil_append,List.takeWhile_cons,hx];rfl
 | c::t=>by
  rw[List.cons_append,List.takeWhile_cons,List.takeWhile_cons,tw_app x m hx t]
theorem get_app_lt {s m:List UInt8} {n:Nat} (h:n < s.length):(s++m)[n]? = s[n]?:=List.getElem?_append_left h
theorem get_app_eq (s:List UInt8) (x:UInt8) (m:List UInt8):(s++x::m)[s.length]? = some x:=by simp
theorem drop_app {s m:List UInt8} {n:Nat} (h:n≤s.length):(s++m).drop n=s.drop n++m:=List.drop_append_of_le_length h
theorem sgn_app (s m:List UInt8):sgnN (s++10::m)=sgnN s:=by
 cases s with
 | nil=>rfl
 | cons c t=>rfl
theorem twd_app (s m:List UInt8):tw (s++10::m)=tw s:=by unfold tw;exact tw_app 10 m (by decide) s
theorem num3_app {s:List UInt8} (m:List UInt8) {n:Nat} (h:n≤s.length):num3T (s++10::m) n=num3T s n:=by
 rcases Nat.lt_or_ge n s.length with h1|h1
 ·unfold num3T;rw[get_app_lt h1]
 ·obtain rfl:n=s.length:=by omega
  rw[num3_end (Nat.lt_irrefl _)];unfold num3T;rw[get_app_eq];rfl
theorem num2_app {s:List UInt8} (m:List UInt8) {n:Nat} (h:n≤s.length):num2T (s++10::m) n=num2T s n:=by
 rcases Nat.lt_or_ge n s.length with h1|h1
 ·have hsg:=sgnN_le (s.drop (n+1));rw[List.length_drop]at hsg;unfold num2T;rw[get_app_lt h1,drop_app (by omega:n+1≤s.length),sgn_app,drop_app (by omega:n+1+sgnN (s.drop (n+1))≤s.length),twd_app];have ht:=tw_lenA (s.drop (n+1+sgnN (s.drop (n+1))));rw[List.length_drop]at ht;rw[num3_app m (by omega),num3_app m h]
 ·obtain rfl:n=s.length:=by omega
  rw[num2_end (Nat.lt_irrefl _)];unfold num2T;rw[get_app_eq];show num3T _ _=_;rw[num3_app m lrf,num3_end (Nat.lt_irrefl _)]
theorem num1_app {s:List UInt8} (m:List UInt8) {n:Nat} (h:n≤s.length):num1T (s++10::m) n=num1T s n:=by
 rcases Nat.lt_or_ge n s.length with h1|h1
 ·unfold num1T;rw[get_app_lt h1,drop_app (by omega:n+1≤s.length),twd_app];have ht:=tw_lenA (s.drop (n+1));rw[List.length_drop]at ht;rw[num2_app m (by omega),num2_app m h]
 ·obtain rfl:n=s.length:=by omega
  rw[num1_end (Nat.lt_irrefl _)];unfold num1T;rw[get_app_eq];show num2T _ _=_;rw[num2_app m lrf,num2_end (Nat.lt_irrefl _)]
theorem num_app (s m:List UInt8):numN (s++10::m)=numN s:=by
 have hsg:=sgnN_le s;have ht:=tw_lenA (s.drop (sgnN s));rw[List.length_drop]at ht;unfold numN;rw[sgn_app,drop_app (by omega:sgnN s≤s.length),twd_app,num1_app m (by omega)]
theorem name_app (s m:List UInt8):nameN (s++10::m)=nameN s:=by unfold nameN;rw[tw_app 10 m (by decide) s]
theorem endQ_app:∀ (l:List UInt8) (b:Bool) (i k:Nat) (m:List UInt8),endQ b i l=some k→endQ b i (l++m)=some k
 | [],b,i,k,m,h=>by rw[endQ_nil]at h;cases h
 | c::t,true,i,k,m,h=>endQ_app t false (i+1) k m h
 | c::t,false,i,k,m,h=>by
  have h1:(if c=92 then endQ true (i+1) t else if c=34 then some i else endQ false (i+1) t)=some k:=h;show(if c=92 then endQ true (i+1) (t++m) else if c=34 then some i else endQ false (i+1) (t++m))=some k;split
  ·rename_i hc;rw[if_pos hc]at h1;exact endQ_app t true (i+1) k m h1
  ·rename_i hc
   rw[if_neg hc]at h1;split
   ·rename_i h2;rw[if_pos h2]at h1;exact h1
   ·rename_i h2;rw[if_neg h2]at h1;exact endQ_app t false (i+1) k m h1
theorem decN_app {n n' b0 b1 b2 b3 c1 c2 c3:Nat} (hn:1≤n) (hnn:n≤n') (e1:2≤n→c1=b1) (e2:3≤n→c2=b2) (e3:4≤n→c3=b3)
  (hill:¬ ((Lib.decodeN n b0 b1 b2 b3).1=65533∧(Lib.decodeN n b0 b1 b2 b3).2=1)):Lib.decodeN n' b0 c1 c2 c3=Lib.decodeN n b0 b1 b2 b3:=by
 revert hill;unfold Lib.decodeN;split
 ·intro _;rfl
 split
 ·rename_i h6
  split
  ·rename_i h;intro _
   obtain rfl:=e1 (by omega);rw[if_pos (by omega),if_pos h]
  ·intro h;exact absurd ⟨rfl,rfl⟩ h
 split
 ·rename_i h6
  split
  ·rename_i h;intro _
   obtain rfl:=e1 (by omega);obtain rfl:=e2 (by omega);rw[if_neg (by omega),if_pos (by omega),if_pos h]
  ·intro h;exact absurd ⟨rfl,rfl⟩ h
 split
 ·rename_i h6
  split
  ·rename_i h;intro _
   obtain rfl:=e1 (by omega);obtain rfl:=e2 (by omega);obtain rfl:=e3 (by omega);rw[if_neg (by omega),if_neg (by omega),if_pos (by omega),if_pos h]
  ·intro h;exact absurd ⟨rfl,rfl⟩ h
 ·intro h;exact absurd ⟨rfl,rfl⟩ h
theorem dec_app (s m:List UInt8) (hne:s≠[]) (hill:illU (decL s).1 (decL s).2=false):decL (s++m)=decL s:=by
 have hpos:0 < s.length:=List.length_pos_iff.2 hne;have hg:∀ j,j < s.length→(s++m).getD j 0=s.getD j 0:=fun j hj=>by rw[List.getD_eq_getElem?_getD,List.getElem?_append_left hj,List.getD_eq_getElem?_getD]
 have hi:¬ ((decL s).1=65533∧(decL s).2=1):=by
  rintro⟨h1,h2⟩;unfold illU at hill;rw[h1,h2]at hill;exact absurd hill (by decide)
 unfold decL at hi ⊢;rw[hg 0 hpos];exact decN_app hpos (by rw[List.length_append];omega) (fun h=>by rw[hg 1 (by omega)]) (fun h=>by rw[hg 2 (by omega)]) (fun h=>by rw[hg 3 (by omega)]) hi
theorem ordB_len {s:List UInt8} (h:ordB s=true):3≤s.length:=by
 rcases Nat.lt_or_ge s.length 3 with h3|h3
 ·exfalso;unfold ordB at h;have hl3:(s.take 3).length < 3:=(by rw[List.length_take];omega);have hb:∀ a b c,(s.take 3 == [a,b,c])=false:=fun a b c=>by
   rw[beq_eq_false_iff_ne];intro e;rw[e]at hl3;simp at hl3
  rw[hb,hb,hb,hb]at h;exact absurd h (by decide)
 ·exact h3
theorem take_app {s m:List UInt8} {n:Nat} (h:n≤s.length):(s++m).take n=s.take n:=List.take_append_of_le_length h
theorem sgC_app (R:Nat) (s m:List UInt8) (hne:s≠[]):sgC R (s++10::m)=sgC R s:=by
 unfold sgC;rcases s with _|⟨c,_|⟨d,t⟩⟩
 ·exact absurd rfl hne
 ·simp[dgU]
 ·rfl
theorem textR_app (s m:List UInt8) (hne:s≠[]) {k:Int} {t:List UInt8} {n:Nat} (h:textR s=.good k t n):textR (s++m)=.good k t n:=by
 have hpos:0 < s.length:=List.length_pos_iff.2 hne;unfold textR at h ⊢;rw[drop_app (by omega:1≤s.length)];cases he:endQ false 1 (s.drop 1)with
 | none=>rw[he]at h;cases h
 | some i=>
  rw[he]at h;rw[endQ_app _ _ _ _ m he];simp only at h ⊢;have hl:=endQ_lt _ _ _ _ he;rw[List.length_drop]at hl;rw[take_app (by omega:i+1≤s.length)];exact h
theorem tok_app (s m:List UInt8) (hne:s≠[]) (hill:illU (decL s).1 (decL s).2=false) {k:Int} {t:List UInt8} {n:Nat} (h:tokR s=.good k t n):tokR (s++10::m)=.good k t n:=by
 have hpos:0 < s.length:=List.length_pos_iff.2 hne;rw[← h];unfold tokR at h ⊢;rw[dec_app s (10::m) hne hill,name_app,num_app,sgC_app _ _ _ hne,take_app (nameN_le s),take_app (numN_le s),take_app (by omega:1≤s.length)];split
 ·rfl
 rename_i h1
 rw[if_neg h1]at h;split
 ·rfl
 rename_i h2
 rw[if_neg h2]at h;split
 ·rename_i h3;rw[if_pos h3]at h;rw[textR_app s _ hne h,h]
 rename_i h3
 rw[if_neg h3]at h;split
 ·rfl
 rename_i h4
 rw[if_neg h4]at h;by_cases h5:ordB s=true
 ·have hl:=ordB_len h5;have e:ordB (s++10::m)=true:=(by unfold ordB at h5 ⊢;rw[take_app hl];exact h5);rw[if_pos e,if_pos h5,take_app hl]
 ·rw[if_neg h5]at h;cases h
theorem tok_n (s:List UInt8) (hne:s≠[]) {k:Int} {t:List UInt8} {n:Nat} (h:tokR s=.good k t n):n≤s.length:=by
 have:=tokR_ok s hne;rw[h]at this;exact this.1
theorem scan_step {f:Nat} {s:List UInt8} {sk:Nat} {p:Int×Int} {acc:List TokD} (hne:s≠[]):scanF (f+1) s sk p acc=if sk=0∧blankU (decL s).1=false then
   match tokR s with
   | .bad e=>.bad (faultV (e:Nat) p.1 p.2)
   | .good k t n=>scanF f (s.drop (decL s).2) (n - (decL s).2) (nextP p (decL s).1) (acc++[⟨k,t,p.1,p.2⟩])
  else scanF f (s.drop (decL s).2) (sk - (decL s).2) (nextP p (decL s).1) acc:=by
 rw[scanF,if_neg hne];split
 ·cases tokR s<;>rfl
 ·rfl
theorem scan_fuel:∀ (f g:Nat) (s:List UInt8) (sk:Nat) (p:Int×Int) (acc:List TokD),s.length≤f→s.length≤g→scanF f s sk p acc=scanF g s sk p acc
 | 0,g,s,sk,p,acc,h1,h2=>by
  have:s=[]:=List.length_eq_zero_iff.1 (by omega);subst this;rw[scan_nil,scan_nil]
 | f+1,0,s,sk,p,acc,h1,h2=>by
  have:s=[]:=List.length_eq_zero_iff.1 (by omega);subst this;rw[scan_nil,scan_nil]
 | f+1,g+1,s,sk,p,acc,h1,h2=>by
  by_cases h0:s=[]
  ·subst h0;rw[scan_nil,scan_nil]
  ·rw[scan_step h0,scan_step h0];have a1:=drop_short h1;have a2:=drop_short h2;split
   ·cases tokR s with
    | bad e=>rfl
    | good k t n=>exact scan_fuel f g _ _ _ _ a1 a2
   ·exact scan_fuel f g _ _ _ _ a1 a2
def fineF (f:Nat) (s:List UInt8):Prop:=∀ u∈unitsF f s (1,1),badU u.rune u.wide=false
theorem units_rw:∀ (f:Nat) (s:List UInt8) (p q:Int×Int),(unitsF f s p).map (fun u=>(u.rune,u.wide))=(unitsF f s q).map (fun u=>(u.rune,u.wide))
 | 0,_,_,_=>rfl
 | f+1,s,p,q=>by
  unfold unitsF;split
  ·rfl
  ·rw[List.map_cons,List.map_cons,units_rw f _ (nextP p _) (nextP q _)]
theorem fine_at (f:Nat) (s:List UInt8) (p:Int×Int) (h:fineF f s):∀ u∈unitsF f s p,badU u.rune u.wide=false:=by
 intro u hu;have h1:(u.rune,u.wide)∈(unitsF f s p).map (fun u=>(u.rune,u.wide)):=List.mem_map.2 ⟨u,hu,rfl⟩;rw[units_rw f s p (1,1)]at h1;obtain⟨v,hv,e⟩:=List.mem_map.1 h1;have:=h v hv;simp only[Prod.mk.injEq]at e;rw[e.1,e.2]at this;exact this
theorem fine_of (f:Nat) (s:List UInt8) (p:Int×Int) (h:∀ u∈unitsF f s p,badU u.rune u.wide=false):fineF f s:=by
 intro u hu;have h1:(u.rune,u.wide)∈(unitsF f s (1,1)).map (fun u=>(u.rune,u.wide)):=List.mem_map.2 ⟨u,hu,rfl⟩;rw[units_rw f s (1,1) p]at h1;obtain⟨v,hv,e⟩:=List.mem_map.1 h1;have:=h v hv;simp only[Prod.mk.injEq]at e;rw[e.1,e.2]at this;exact this
theorem fine_cons {f:Nat} {s:List UInt8} (hne:s≠[]):fineF (f+1) s↔badU (decL s).1 (decL s).2=false∧fineF f (s.drop (decL s).2):=by
 have e:∀ p,unitsF (f+1) s p=⟨p.1,p.2,(decL s).1,(decL s).2⟩::unitsF f (s.drop (decL s).2) (nextP p (decL s).1):=fun p=>by
  show(if s=[] then [] else _)=_;rw[if_neg hne]
 constructor
 ·intro h;unfold fineF at h;rw[e]at h;exact⟨h _ (List.mem_cons_self ..),fine_of f _ _ (fun u hu=>h u (List.mem_cons_of_mem _ hu))⟩
 ·rintro⟨h1,h2⟩ u hu;rw[e]at hu;rcases List.mem_cons.1 hu with rfl|hu
  ·exact h1
  ·exact fine_at f _ _ h2 u hu
theorem fine_nil (f:Nat):fineF f []:=by intro u hu;rw[unitsF_nil]at hu;cases hu
theorem fine_fuel:∀ (f g:Nat) (s:List UInt8),s.length≤f→s.length≤g→fineF f s→fineF g s
 | 0,g,s,h1,h2,h=>by
  have:s=[]:=List.length_eq_zero_iff.1 (by omega);subst this;exact fine_nil g
 | f+1,0,s,h1,h2,h=>by
  have:s=[]:=List.length_eq_zero_iff.1 (by omega);subst this;exact fine_nil 0
 | f+1,g+1,s,h1,h2,h=>by
  by_cases h0:s=[]
  ·subst h0;exact fine_nil _
  ·rw[fine_cons h0]at h ⊢;exact⟨h.1,fine_fuel f g _ (drop_short h1) (drop_short h2) h.2⟩
theorem check_fine (s:List UInt8):checkL s=none↔fineF s.length s:=by
 unfold checkL unitsL fineF;rw[List.find?_eq_none];simp
theorem bad_ill {r n:Nat} (h:badU r n=false):illU r n=false:=by unfold badU at h;rw[Bool.or_eq_false_iff]at h;exact h.1
theorem fine_app:∀ (f:Nat) (s m:List UInt8) (g:Nat),s.length≤f→(s++m).length≤g→fineF f s→fineF m.length m→fineF g (s++m)
 | 0,s,m,g,h1,h2,h,hm=>by
  have:s=[]:=List.length_eq_zero_iff.1 (by omega);subst this;rw[List.nil_append]at h2 ⊢;exact fine_fuel _ _ _ lrf h2 hm
 | f+1,s,m,g,h1,h2,h,hm=>by
  by_cases h0:s=[]
  ·subst h0;rw[List.nil_append]at h2 ⊢;exact fine_fuel _ _ _ lrf h2 hm
  ·rw[fine_cons h0]at h;have hne:s++m≠[]:=(by intro e;exact h0 (List.append_eq_nil_iff.1 e).1);have hd:=dec_app s m h0 (bad_ill h.1);have hw:=(dec_w s).2.2 h0;rcases g with _|g
   ·have:=List.length_pos_iff.2 hne;omega
   rw[fine_cons hne,hd,drop_app hw];refine⟨h.1,fine_app f _ m g (drop_short h1) ?_ h.2 hm⟩;rw[← drop_app hw,← hd];exact drop_short h2
theorem scan_app:∀ (f:Nat) (s m:List UInt8) (g sk:Nat) (p:Int×Int) (acc l:List TokD),s.length≤f→(s++10::m).length≤g→fineF f s→sk≤s.length→scanF f s sk p acc=.good l →
  ∃ T,l=T++[endTok (endF f s p)]∧scanF g (s++10::m) sk p acc=scanF (m.length+1) (10::m) 0 (endF f s p) T
 | 0,s,m,g,sk,p,acc,l,h1,h2,hf,hsk,h=>by
  have:s=[]:=List.length_eq_zero_iff.1 (by omega);subst this;rw[scan_nil]at h;cases h
  have:sk=0:=by simpa using hsk
  subst this;refine⟨acc,rfl,?_⟩;rw[List.nil_append]at h2 ⊢;exact scan_fuel _ _ _ _ _ _ h2 (by simp)
 | f+1,s,m,g,sk,p,acc,l,h1,h2,hf,hsk,h=>by
  by_cases h0:s=[]
  ·subst h0;rw[scan_nil]at h;cases h
   have:sk=0:=by simpa using hsk
   subst this;refine⟨acc,by simp[endF],?_⟩;rw[List.nil_append]at h2 ⊢;rw[show endF (f+1) [] p=p by simp[endF]];exact scan_fuel _ _ _ _ _ _ h2 (by simp)
  ·rw[fine_cons h0]at hf;have hill:=bad_ill hf.1;have hne:s++10::m≠[]:=(by simp);have hd:=dec_app s (10::m) h0 hill;have hw:=(dec_w s).2.2 h0;have hw1:=(dec_w s).1;rcases g with _|g
   ·have:=List.length_pos_iff.2 hne;omega
   have he:endF (f+1) s p=endF f (s.drop (decL s).2) (nextP p (decL s).1):=by
    show(if s=[] then p else _)=_;rw[if_neg h0]
   have h3:(s.drop (decL s).2++10::m).length≤g:=by
    rw[← drop_app hw,← hd];exact drop_short h2
   rw[scan_step h0]at h;rw[scan_step hne,hd,drop_app hw,he];by_cases hc:sk=0∧blankU (decL s).1=false
   ·rw[if_pos hc]at h ⊢;cases ht:tokR s with
    | bad e=>rw[ht]at h;cases h
    | good k t n=>
     rw[ht]at h;rw[tok_app s m h0 hill ht];simp only at h ⊢;exact scan_app f _ m g _ _ _ l (drop_short h1) h3 hf.2 (by rw[List.length_drop];have:=tok_n s h0 ht;omega) h
   ·rw[if_neg hc]at h ⊢;exact scan_app f _ m g _ _ _ l (drop_short h1) h3 hf.2 (by rw[List.length_drop];omega) h
theorem scanL_good {s:List UInt8} {l:List TokD} (h:scanL s=.good l):s.length≤1048576∧checkL s=none∧scanF s.length s 0 (1,1) []=.good l:=by
 unfold scanL at h;split at h
 ·cases h
 ·cases hc:checkL s with
  | none=>rw[hc]at h;exact⟨by omega,rfl,h⟩
  | some u=>rw[hc]at h;cases h
theorem scan_bd (B:Int):∀ (f:Nat) (s:List UInt8) (sk:Nat) (p:Int×Int) (acc l:List TokD),scanF f s sk p acc=.good l→s.length≤f→1≤p.1→p.1+s.length≤B→(∀ t∈acc,1≤t.line∧t.line≤B) →
  (∀ t∈l,1≤t.line∧t.line≤B)∧l.length≤acc.length+s.length+1
 | 0,s,sk,p,acc,l,h,hf,h1,h2,h3=>by
  have:s=[]:=List.length_eq_zero_iff.1 (by omega);subst this;rw[scan_nil]at h;cases h
  refine⟨fun t ht=>?_,by simp⟩;rcases List.mem_append.1 ht with ht|ht
  ·exact h3 t ht
  ·rw[List.mem_singleton]at ht;subst ht;simp only[endTok];simp at h2;omega
 | f+1,s,sk,p,acc,l,h,hf,h1,h2,h3=>by
  by_cases h0:s=[]
  ·subst h0;rw[scan_nil]at h;cases h
   refine⟨fun t ht=>?_,by simp⟩;rcases List.mem_append.1 ht with ht|ht
   ·exact h3 t ht
   ·rw[List.mem_singleton]at ht;subst ht;simp only[endTok];simp at h2;omega
  ·have hw:=(dec_w s).2.2 h0;have hw1:=(dec_w s).1;have hn1:1≤(nextP p (decL s).1).1:=(by unfold nextP;split<;>simp only<;>omega);have hn2:(nextP p (decL s).1).1+(s.drop (decL s).2).length≤B:=by
    rw[List.length_drop];unfold nextP;split<;>simp only<;>omega
   rw[scan_step h0]at h;split at h
   ·cases ht:tokR s with
    | bad e=>rw[ht]at h;cases h
    | good k t n=>
     rw[ht]at h;obtain⟨r1,r2⟩:=scan_bd B f _ _ _ _ l h (drop_short hf) hn1 hn2 (fun t ht=>by
      rcases List.mem_append.1 ht with ht|ht
      ·exact h3 t ht
      ·rw[List.mem_singleton]at ht;subst ht;simp only;omega)
     refine⟨r1,?_⟩;rw[List.length_append,List.length_drop,List.length_singleton]at r2;omega
   ·obtain⟨r1,r2⟩:=scan_bd B f _ _ _ _ l h (drop_short hf) hn1 hn2 h3;refine⟨r1,?_⟩;rw[List.length_drop]at r2;omega
theorem scanL_bd {s:List UInt8} {l:List TokD} (h:scanL s=.good l):s.length≤1048576∧l.length≤s.length+1∧0 < l.length∧∀ t∈l,1≤t.line∧t.line≤1048577:=by
 obtain⟨a1,a2,a3⟩:=scanL_good h;obtain⟨r1,r2⟩:=scan_bd 1048577 _ _ _ _ _ _ a3 lrf (by decide) (by show(1:Int)+_≤_;omega) (fun t ht=>by cases ht);obtain⟨T,e,_⟩:=scan_app s.length s [] _ 0 (1,1) [] l lrf lrf ((check_fine s).1 a2) (Nat.zero_le _) a3;refine⟨a1,by simpa using r2,by rw[e];simp,r1⟩
theorem scanF_bad:∀ (f:Nat) (s:List UInt8) (sk:Nat) (p:Int×Int) (acc:List TokD) (v:Value),scanF f s sk p acc=.bad v→∃ T d,v=.iface T d
 | 0,s,sk,p,acc,v,h=>by simp[scanF]at h
 | f+1,s,sk,p,acc,v,h=>by
  by_cases h0:s=[]
  ·subst h0;rw[scan_nil]at h;cases h
  ·rw[scan_step h0]at h;split at h
   ·cases ht:tokR s with
    | bad e=>rw[ht]at h;cases h;exact⟨_,_,rfl⟩
    | good k t n=>rw[ht]at h;exact scanF_bad f _ _ _ _ v h
   ·exact scanF_bad f _ _ _ _ v h
theorem scanL_bad {s:List UInt8} {v:Value} (h:scanL s=.bad v):∃ T d,v=.iface T d:=by
 unfold scanL at h;split at h
 ·cases h;exact⟨_,_,rfl⟩
 ·cases hc:checkL s with
  | none=>rw[hc]at h;exact scanF_bad _ _ _ _ _ v h
  | some u=>rw[hc]at h;cases h;exact⟨_,_,rfl⟩
inductive Bnd:List UInt8→Int×Int→Nat→Int×Int→Prop where
 | zero (s:List UInt8) (p:Int×Int):Bnd s p 0 p
 | step (s:List UInt8) (p:Int×Int) (n:Nat) (q:Int×Int) (hne:s≠[]) (h:Bnd (s.drop (decL s).2) (nextP p (decL s).1) n q):Bnd s p ((decL s).2+n) q
theorem Bnd.trans {s:List UInt8} {p q r:Int×Int} {n m:Nat} (h:Bnd s p n q) (h2:Bnd (s.drop n) q m r):Bnd s p (n+m) r:=by
 induction h with
 | zero s p=>rw[Nat.zero_add];exact h2
 | step s p n q hne h ih=>
  rw[Nat.add_assoc];refine .step s p _ _ hne (ih ?_)
  rwa [List.drop_drop]
theorem Bnd.jump {s:List UInt8} {p q:Int×Int} {n:Nat} (h:Bnd s p n q):∀ (f g:Nat) (acc:List TokD),s.length≤f→(s.drop n).length≤g→scanF f s n p acc=scanF g (s.drop n) 0 q acc:=by
 induction h with
 | zero s p=>intro f g acc hf hg;exact scan_fuel f g _ _ _ _ hf hg
 | step s p n q hne h ih=>
  intro f g acc hf hg;have hw:=(dec_w s).1;cases f with
  | zero=>exact absurd (List.length_eq_zero_iff.1 (by omega)) hne
  | succ f=>
   rw[scan_skip hne (by rintro⟨h1,_⟩;omega),Nat.add_sub_cancel_left,ih f g acc (drop_short hf) (by rwa [List.drop_drop]),List.drop_drop]
theorem bnd_low:∀ (f:Nat) (s:List UInt8) (p:Int×Int) (n:Nat) (c:UInt8),s.length≤f→1≤n→s[n - 1]? = some c→c.toNat < 128→∃ q,Bnd s p n q
 | 0,s,p,n,c,hf,hn,hc,hlo=>by
  have:s=[]:=List.length_eq_zero_iff.1 (by omega);subst this;simp at hc
 | f+1,s,p,n,c,hf,hn,hc,hlo=>by
  have hne:s≠[]:=(by intro h;subst h;simp at hc);have hlt:n - 1 < s.length:=(List.getElem?_eq_some_iff.1 hc).1;have hw:=dec_w s;by_cases hr:(decL s).1 < 128
  ·obtain⟨a,t,rfl⟩:∃ a t,s=a::t:=by cases s with
    | nil=>exact absurd rfl hne
    | cons a t=>exact⟨a,t,rfl⟩
   obtain⟨he,h1⟩:=dec_low a t hr;have e2:(decL (a::t)).2=1:=(by rw[he]);by_cases h:n=1
   ·subst h;have:=Bnd.step (a::t) p 0 _ hne (.zero _ _);rw[e2]at this;exact⟨_,this⟩
   ·obtain⟨q,hq⟩:=bnd_low f ((a::t).drop (decL (a::t)).2) (nextP p (decL (a::t)).1) (n - 1) c (drop_short hf) (by omega) (by
     rw[e2,List.getElem?_drop,show 1+(n - 1 - 1)=n - 1 by omega];exact hc) hlo
    have:=Bnd.step (a::t) p _ _ hne hq;rw[e2,show 1+(n - 1)=n by omega]at this;exact⟨q,this⟩
  ·have hc2:=dec_conts s (by omega) hne;have hge:(decL s).2 < n:=by
    rcases Nat.lt_or_ge (decL s).2 n with h|h
    ·exact h
    ·exfalso;have hm:c∈s.take (decL s).2:=by
      apply List.mem_of_getElem? (i:=n - 1);rw[List.getElem?_take,if_pos (by omega)];exact hc
     have:=hc2 c hm;omega
   obtain⟨q,hq⟩:=bnd_low f (s.drop (decL s).2) (nextP p (decL s).1) (n - (decL s).2) c (drop_short hf) (by omega) (by
    rw[List.getElem?_drop,show(decL s).2+(n - (decL s).2 - 1)=n - 1 by omega];exact hc) hlo
   have:=Bnd.step s p _ _ hne hq;rw[show(decL s).2+(n - (decL s).2)=n by omega]at this;exact⟨q,this⟩
theorem dec_test (q:Nat→Bool) (hq:∀ r,q r=true→r < 128) (c:UInt8) (t:List UInt8):q (decL (c::t)).1=q c.toNat:=by
 by_cases h:(decL (c::t)).1 < 128
 ·rw[(dec_low c t h).1]
 ·have h2:¬ c.toNat < 128:=fun h3=>h (by rw[dec_ascii c t h3];exact h3)
  have e1:q (decL (c::t)).1=false:=(by rw[Bool.eq_false_iff];exact fun h3=>h (hq _ h3));have e2:q c.toNat=false:=(by rw[Bool.eq_false_iff];exact fun h3=>h2 (hq _ h3));rw[e1,e2]
theorem blankU_low {r:Nat} (h:blankU r=true):r < 128:=by
 unfold blankU at h;simp only[Bool.or_eq_true,beq_iff_eq]at h;omega
theorem sgU_lowT {r:Nat} (h:sgU r=true):r < 128:=by
 unfold sgU at h;simp only[Bool.or_eq_true,beq_iff_eq]at h;omega
theorem tok_bytes (c:UInt8) (t:List UInt8):tokR (c::t) =
  if ltU c.toNat=true then .good 1 ((c::t).take (nameN (c::t))) (nameN (c::t))
  else if (dgU c.toNat || sgC c.toNat (c::t))=true then (if numN (c::t)=0 then .bad 8 else .good 2 ((c::t).take (numN (c::t))) (numN (c::t)))
  else if c=34 then textR (c::t)
  else if sgU c.toNat=true then .good 4 [c] 1
  else if ordB (c::t)=true then .good 4 ((c::t).take 3) 3 else .bad 7:=by
 have e1:=dec_test ltU (fun r h=>ltU_low h) c t;have e2:=dec_test dgU (fun r h=>dgU_low h) c t;have e3:=dec_test sgU (fun r h=>sgU_lowT h) c t;have e4:sgC (decL (c::t)).1 (c::t)=sgC c.toNat (c::t):=by
  have:=dec_test (fun r=>r == 43 || r == 45) (fun r h=>by simp only[Bool.or_eq_true,beq_iff_eq]at h;omega) c t;unfold sgC;have h2:((decL (c::t)).1 == 43 || (decL (c::t)).1 == 45)=(c.toNat == 43 || c.toNat == 45):=this;rw[h2]
 have e5:((decL (c::t)).1=34)=(c=34):=by
  have this:((decL (c::t)).1 == 34)=(c.toNat == 34):=dec_test (fun r=>r == 34) (fun r h=>by simp only[beq_iff_eq]at h;omega) c t;apply propext;constructor
  ·intro h;rw[h]at this;exact UInt8.toNat.inj (by have h2:=this.symm;rw[beq_self_eq_true,beq_iff_eq]at h2;exact h2)
  ·intro h;subst h;have h2:(UInt8.toNat 34 == 34)=true:=rfl;rw[h2,beq_iff_eq]at this;exact this
 unfold tokR;simp only[e1,e2,e3,e4,e5];rfl
theorem endQ_at:∀ (l:List UInt8) (b:Bool) (i k:Nat),endQ b i l=some k→i≤k∧l[k - i]? = some 34
 | [],b,i,k,h=>by rw[endQ_nil]at h;cases h
 | c::t,true,i,k,h=>by
  obtain⟨h1,h2⟩:=endQ_at t false (i+1) k h;refine⟨by omega,?_⟩;rw[show k - i=(k - (i+1))+1 by omega];exact h2
 | c::t,false,i,k,h=>by
  have h':(if c=92 then endQ true (i+1) t else if c=34 then some i else endQ false (i+1) t)=some k:=h;have aux:∀ b,endQ b (i+1) t=some k→i≤k∧(c::t)[k - i]? = some 34:=fun b h=>by
   obtain⟨h1,h2⟩:=endQ_at t b (i+1) k h;refine⟨by omega,?_⟩;rw[show k - i=(k - (i+1))+1 by omega];exact h2
  split at h'
  ·exact aux _ h'
  ·split at h'
   ·rename_i h3
    cases h'
    rw[Nat.sub_self];exact⟨lrf,by rw[h3];rfl⟩
   ·exact aux _ h'
def LastA (s:List UInt8) (n:Nat):Prop:=1≤n∧∃ c,s[n - 1]? = some c∧c.toNat < 128
theorem last_tw {s:List UInt8} {n:Nat} (h:tw (s.drop n)≠[]):LastA s (n+(tw (s.drop n)).length):=by
 have hpos:0 < (tw (s.drop n)).length:=List.length_pos_iff.2 h;refine⟨by omega,?_⟩;have hm:(tw (s.drop n))[(tw (s.drop n)).length - 1]∈tw (s.drop n):=List.getElem_mem _;have hd:isDg (tw (s.drop n))[(tw (s.drop n)).length - 1]=true:=by
  unfold tw at hm ⊢;exact List.all_eq_true.1 (List.all_takeWhile ..) _ hm
 refine⟨(tw (s.drop n))[(tw (s.drop n)).length - 1],?_,dgU_low (show dgU _=true from hd)⟩;have hpre:tw (s.drop n) <+: s.drop n:=(by unfold tw;exact List.takeWhile_prefix _);rw[show n+(tw (s.drop n)).length - 1=n+((tw (s.drop n)).length - 1)by omega,← List.getElem?_drop];obtain⟨r,hr⟩:=hpre;have h3:(s.drop n)[(tw (s.drop n)).length - 1]? = (tw (s.drop n)++r)[(tw (s.drop n)).length - 1]?:=(by rw[hr]);rw[h3,List.getElem?_append_left (by omega),List.getElem?_eq_getElem (by omega)]
theorem num3_last {s:List UInt8} {n:Nat} (h:LastA s n):num3T s n=0∨LastA s (num3T s n):=by
 unfold num3T;split
 ·split
  ·exact .inl rfl
  ·exact .inr h
 ·exact .inr h
theorem num2_last {s:List UInt8} {n:Nat} (h:LastA s n):num2T s n=0∨LastA s (num2T s n):=by
 unfold num2T;split
 ·split
  ·split
   ·exact .inl rfl
   ·rename_i h2
    exact num3_last (last_tw h2)
  ·exact num3_last h
 ·exact num3_last h
theorem num1_last {s:List UInt8} {n:Nat} (h:LastA s n):num1T s n=0∨LastA s (num1T s n):=by
 unfold num1T;split
 ·split
  ·split
   ·exact .inl rfl
   ·rename_i h2
    have:=last_tw h2;rw[Nat.add_assoc]at this;exact num2_last this
  ·exact num2_last h
 ·exact num2_last h
theorem num_first (c:UInt8) (t:List UInt8) (h:(dgU c.toNat || sgC c.toNat (c::t))=true):tw ((c::t).drop (sgnN (c::t)))≠[]:=by
 show tw ((c::t).drop (if isSg c=true then 1 else 0))≠[];have htw:∀ (d:UInt8) (u:List UInt8),dgU d.toNat=true→tw (d::u)≠[]:=fun d u hd=>by
  rw[tw_cons (show isDg d=true from hd)];exact List.cons_ne_nil _ _
 cases hs:isSg c
 ·rw[if_neg (by simp)];rw[Bool.or_eq_true]at h;rcases h with h|h
  ·exact htw c t h
  ·exfalso;unfold sgC at h;rw[Bool.and_eq_true,Bool.or_eq_true,beq_iff_eq,beq_iff_eq]at h;unfold isSg at hs;rw[Bool.or_eq_false_iff,beq_eq_false_iff_ne,beq_eq_false_iff_ne]at hs;rcases h.1 with h1|h1
   ·exact hs.1 (UInt8.toNat.inj h1)
   ·exact hs.2 (UInt8.toNat.inj h1)
 ·rw[if_pos rfl];have hnd:dgU c.toNat=false:=by
   unfold isSg at hs;rw[Bool.or_eq_true,beq_iff_eq,beq_iff_eq]at hs;rcases hs with rfl|rfl<;>rfl
  rw[hnd,Bool.false_or]at h;unfold sgC at h;rw[Bool.and_eq_true]at h;rcases t with _|⟨d,u⟩
  ·exact absurd h.2 (by simp)
  ·exact htw d u h.2
theorem num_last (c:UInt8) (t:List UInt8) (h:(dgU c.toNat || sgC c.toNat (c::t))=true):numN (c::t)=0∨LastA (c::t) (numN (c::t)):=
 num1_last (last_tw (num_first c t h))
theorem tok_last (c:UInt8) (t:List UInt8) {k:Int} {x:List UInt8} {n:Nat} (h:tokR (c::t)=.good k x n):LastA (c::t) n:=by
 rw[tok_bytes]at h;split at h
 ·rename_i h1
  cases h
  have h2:ldC c=true:=(by unfold ldC;rw[h1];rfl);have hpos:0 < nameN (c::t):=(by unfold nameN;rw[List.takeWhile_cons,h2];simp);refine⟨hpos,?_⟩;have hm:((c::t).takeWhile ldC)[nameN (c::t) - 1]'(by unfold nameN at hpos ⊢;omega)∈(c::t).takeWhile ldC:=List.getElem_mem _;have hd:=List.all_eq_true.1 (List.all_takeWhile (p:=ldC) (l:=c::t)) _ hm;refine⟨((c::t).takeWhile ldC)[nameN (c::t) - 1]'(by unfold nameN at hpos ⊢;omega),?_,?_⟩
  ·obtain⟨r,hr⟩:=List.takeWhile_prefix ldC (l:=c::t);have:(c::t)[nameN (c::t) - 1]? = ((c::t).takeWhile ldC++r)[nameN (c::t) - 1]?:=by rw[hr]
   rw[this,List.getElem?_append_left (by unfold nameN at hpos ⊢;omega),List.getElem?_eq_getElem (by unfold nameN at hpos ⊢;omega)]
  ·unfold ldC at hd;rw[Bool.or_eq_true]at hd;rcases hd with hd|hd
   ·exact ltU_low hd
   ·exact dgU_low hd
 ·split at h
  ·rename_i h2
   split at h
   ·cases h
   ·rename_i h3
    cases h
    rcases num_last c t h2 with h4|h4
    ·exact absurd h4 h3
    ·exact h4
  ·split at h
   ·unfold textR at h;split at h
    ·cases h
    ·rename_i i hi
     split at h
     ·split at h<;>cases h
     ·cases h
      obtain⟨a,b⟩:=endQ_at _ _ _ _ hi;refine⟨by omega,34,?_,by decide⟩;rw[List.getElem?_drop]at b;rw[show i+1 - 1=1+(i - 1)by omega];exact b
   ·split at h
    ·rename_i h4
     cases h
     exact⟨lrf,c,rfl,sgU_lowT h4⟩
    ·split at h
     ·rename_i h5
      cases h
      refine⟨by decide,?_⟩;unfold ordB at h5;have hl:=ordB_len (s:=c::t) h5;simp only[Bool.or_eq_true,beq_iff_eq]at h5;have aux:∀ a b d:UInt8,(c::t).take 3=[a,b,d]→(c::t)[2]? = some d:=fun a b d e=>by
       have:=congrArg (fun l=>l[2]?) e;simp only[List.getElem?_take]at this;rw[if_pos (by decide)]at this;exact this
      rcases h5 with ((h5|h5)|h5)|h5
      all_goals exact⟨_,aux _ _ _ h5,by decide⟩
     ·cases h
structure RefI (s:List UInt8) (V:ScanR) (i:Nat) (acc:List TokD) (q:Int×Int):Prop where
 hk:i≤s.length
 hb:Bnd s (1,1) i q
 hv:V=scanF (s.length - i) (s.drop i) 0 q acc
theorem RefI.blank {s:List UInt8} {V:ScanR} {i:Nat} {acc:List TokD} {q:Int×Int} (h:RefI s V i acc q) (hlt:i < s.length) (hb:blankU s[i].toNat=true):∃ q',RefI s V (i+1) acc q':=by
 have hd:=List.drop_eq_getElem_cons hlt;obtain⟨_,h2,h3⟩:=h;have e:=dec_ascii s[i] (s.drop (i+1)) (blankU_low hb);refine⟨nextP q (decL (s.drop i)).1,hlt,?_,?_⟩
 ·have:=Bnd.step (s.drop i) q 0 _ (by rw[hd];exact List.cons_ne_nil _ _) (.zero _ _);rw[hd,e,← hd]at this;have h4:=h2.trans this;rw[hd,e];exact h4
 ·rw[h3,show s.length - i=(s.length - (i+1))+1 by omega,scan_skip (by rw[hd];exact List.cons_ne_nil _ _) (by rw[hd,e];rintro⟨_,h5⟩;rw[hb]at h5;cases h5),hd,e];rfl
theorem RefI.bad {s:List UInt8} {V:ScanR} {i:Nat} {acc:List TokD} {q:Int×Int} (h:RefI s V i acc q) (hlt:i < s.length) (hb:blankU s[i].toNat=false) {e:Nat} (ht:tokR (s.drop i)=.bad e):V=.bad (faultV (e:Nat) q.1 q.2):=by
 have hd:=List.drop_eq_getElem_cons hlt;rw[h.hv,show s.length - i=(s.length - (i+1))+1 by omega,scan_tok (by rw[hd];exact List.cons_ne_nil _ _) rfl (by rw[hd,dec_test blankU (fun r h=>blankU_low h)];exact hb),ht]
theorem RefI.good {s:List UInt8} {V:ScanR} {i:Nat} {acc:List TokD} {q:Int×Int} (h:RefI s V i acc q) (hlt:i < s.length) (hb:blankU s[i].toNat=false) {k:Int} {t:List UInt8} {n:Nat} (ht:tokR (s.drop i)=.good k t n):1≤n∧∃ q',RefI s V (i+n) (acc++[⟨k,t,q.1,q.2⟩]) q':=by
 have hd:=List.drop_eq_getElem_cons hlt;have hne:s.drop i≠[]:=(by rw[hd];exact List.cons_ne_nil _ _);have hl:LastA (s.drop i) n:=by
  rw[hd]at ht ⊢;exact tok_last _ _ ht
 obtain⟨h1,c,hc,hc2⟩:=hl;obtain⟨q',hq⟩:=bnd_low _ (s.drop i) q n c lrf h1 hc hc2;have hn:=tok_n _ hne ht;rw[List.length_drop]at hn;refine⟨h1,q',by omega,h.hb.trans hq,?_⟩;have h4:=hq.jump (s.length - i) (s.length - (i+n)) (acc++[⟨k,t,q.1,q.2⟩]) (by rw[List.length_drop];exact lrf) (by rw[List.length_drop,List.length_drop];omega);rw[List.drop_drop]at h4;rw[← h4,h.hv,show s.length - i=(s.length - (i+1))+1 by omega,scan_tok hne rfl (by rw[hd,dec_test blankU (fun r h=>blankU_low h)];exact hb),ht];simp only;rw[scan_skip hne (by rintro⟨h5,_⟩;omega)]
theorem RefI.fin {s:List UInt8} {V:ScanR} {i:Nat} {acc:List TokD} {q:Int×Int} (h:RefI s V i acc q) (hlt:i=s.length):V=.good (acc++[endTok q]):=by
 rw[h.hv,hlt,List.drop_length,scan_nil]
def atB (s:List UInt8) (i:Nat):UInt8:=(s[i]?).getD 0
theorem num3_at (s:List UInt8) (n:Nat):num3T s n=if stopN (atB s n)=true then 0 else n:=by
 unfold num3T atB;cases s[n]? with
 | none=>rfl
 | some c=>rfl
end Go.Proofs.YtkblpaabknjckaaGreatDoor
