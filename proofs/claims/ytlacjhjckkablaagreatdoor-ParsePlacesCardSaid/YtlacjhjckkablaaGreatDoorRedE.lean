/-
  The reference's reader: numbers, roles, orders, fractions: contracts. (Printed by gen_rede.py.)
-/
import Derived.Test.YtlacjhjckkablaaGreatDoorBaseD
import Derived.Test.YtlacjhjckkablaaGreatDoorFilM
import Derived.Test.YtlacjhjckkablaaGreatDoorParS
import Derived.Test.YtlacjhjckkablaaGreatDoorPrsQ
import Derived.StillTailTactics
import Derived.Laws.BitsAllLaws
set_option maxHeartbeats 128000000
set_option linter.unusedVariables false
namespace Go.Proofs.YtlacjhjckkablaaGreatDoor
open Go.RowKit
def numG:Nat→List UInt8→Nat×Bool
 | n,[]=>(n,true)
 | n,c::r=>if isDg c=true then (if (18446744073709551615 - (c.toNat - 48)) / 10 < n then (0,false) else numG (10*n+(c.toNat - 48)) r) else (0,false)
def numZ (s:List UInt8):Bool:=match s with
 | []=>true
 | c::r=>c == 48 && !r.isEmpty
def numQ (s:List UInt8):Nat×Bool:=if numZ s then (0,false) else numG 0 s
def okQ (r:Lib.NumEnd Nat):Nat×Bool:=match r with
 | .ok u=>(u,true)
 | _=>(0,false)
theorem numG_eq (l:List UInt8):∀ (n:Nat),n < 18446744073709551616→numG n l=okQ (Lib.parseUintM 18446744073709551615 n l):=by
 induction l with
 | nil=>intro n hn;rfl
 | cons c r ih=>
  intro n hn;unfold numG Lib.parseUintM;by_cases hd:isDg c=true
  ·have h1:=(isDg_iff c).1 hd;rw[if_pos hd,if_pos h1];by_cases hq:(18446744073709551615 - (c.toNat - 48)) / 10 < n
   ·rw[if_pos hq];by_cases h2:1844674407370955162≤n
    ·rw[if_pos h2];rfl
    ·rw[if_neg h2,if_pos (by omega)];rfl
   ·rw[if_neg hq,if_neg (by omega),if_neg (by omega)];rw[show n*10+(c.toNat - 48)=10*n+(c.toNat - 48)by omega];exact ih _ (by omega)
  ·have h1:¬ (48≤c.toNat∧c.toNat≤57):=fun h=>hd ((isDg_iff c).2 h)
   rw[if_neg hd,if_neg h1];rfl
theorem puM_inv (M:Nat) (l:List UInt8):∀ (acc u:Nat),Lib.parseUintM M acc l=.ok u→digL l∧u=acc*10 ^ l.length+valL l:=by
 induction l with
 | nil=>intro acc u h;unfold Lib.parseUintM at h;cases h;exact⟨fun c hc=>absurd hc (by simp),by simp[valL,valS]⟩
 | cons c r ih=>
  intro acc u h;unfold Lib.parseUintM at h;split at h
  ·rename_i h1
   split at h
   ·cases h
   ·split at h
    ·cases h
    ·obtain⟨h2,h3⟩:=ih _ _ h;refine⟨fun x hx=>?_,?_⟩
     ·rcases List.mem_cons.1 hx with rfl|hx
      ·exact(isDg_iff _).2 h1
      ·exact h2 x hx
     ·rw[h3,List.length_cons,Nat.pow_succ,valL_cons,Nat.add_mul,Nat.mul_assoc acc 10,Nat.mul_comm 10 (10 ^ r.length)];omega
  ·cases h
theorem dec_zeroN:Lib.decDigits 0=[48]:=by rw[dec_small 0 (by decide)];rfl
theorem dec_back {s:List UInt8} {u:Nat} (h:Lib.parseUintB 64 s=.ok u):(Lib.decDigits u == s) = !numZ s:=by
 unfold Lib.parseUintB at h;split at h
 ·cases h
 ·rename_i hne
  obtain⟨h1,h2⟩:=puM_inv _ _ _ _ h;rw[Nat.zero_mul,Nat.zero_add]at h2;subst h2;cases s with
  | nil=>exact absurd rfl hne
  | cons c r=>
   unfold numZ;by_cases hc:c=48
   ·subst hc;cases r with
    | nil=>
     have:valL [48]=0:=by decide
     rw[this,dec_zeroN];rfl
    | cons d r'=>
     have hf:(Lib.decDigits (valL (48::d::r')) == 48::d::r')=false:=by
      rw[beq_eq_false_iff_ne];intro e;rcases Nat.eq_zero_or_pos (valL (48::d::r'))with h0|h0
      ·rw[h0,dec_zeroN]at e;cases e
      ·obtain⟨x,l,hx,hx2⟩:=dec_head h0;rw[hx]at e;cases e
       exact hx2 rfl
     rw[hf];rfl
   ·rw[(dec_canon h1 hc).1,beq_self_eq_true];show true = !(c == 48 && !r.isEmpty);rw[bN hc];rfl
theorem numQ_eq (s:List UInt8):numQ s=if (numP s).2=true then numP s else (0,false):=by
 unfold numQ numP;cases hp:Lib.parseUintB 64 s with
 | ok u=>
  simp only;rw[dec_back hp];unfold Lib.parseUintB at hp;split at hp
  ·cases hp
  ·cases hz:numZ s
   ·simp only[Bool.false_eq_true,if_false,Bool.not_false,if_true];rw[numG_eq s 0 (by decide)];rw[show(18446744073709551615:Nat)=2 ^ 64 - 1 by decide,hp];rfl
   ·simp
 | range=>
  simp only[Bool.false_eq_true,if_false];split
  ·rfl
  ·rename_i hz
   unfold Lib.parseUintB at hp;split at hp
   ·cases hp
   ·rw[numG_eq s 0 (by decide),show(18446744073709551615:Nat)=2 ^ 64 - 1 by decide,hp];rfl
 | _=>
  simp only[Bool.false_eq_true,if_false];split
  ·rfl
  ·rename_i hz
   unfold Lib.parseUintB at hp;split at hp
   ·rename_i h0
    subst h0;exact absurd rfl hz
   ·rw[numG_eq s 0 (by decide),show(18446744073709551615:Nat)=2 ^ 64 - 1 by decide,hp];rfl
theorem numQ_ok {s:List UInt8} {u:Nat} (h:numQ s=(u,true)):Lib.parseUintB 64 s=.ok u∧Lib.decDigits u=s∧s≠[]:=by
 rw[numQ_eq]at h;split at h
 ·unfold numP at h;split at h
  ·rename_i x hp
   injection h with h1 h2
   subst h1;refine⟨hp,eq_of_beq h2,fun e=>?_⟩;subst e;cases hp
  ·cases h
  ·cases h
 ·cases h
theorem numQ_bad {s:List UInt8} {n:Nat} (h:numQ s=(n,false)):n=0∧∀ u,Lib.parseUintB 64 s=.ok u→Lib.decDigits u≠s:=by
 rw[numQ_eq]at h;split at h
 ·rename_i h2
  rw[h]at h2;cases h2
 ·rename_i h2
  injection h with h1
  refine⟨h1.symm,fun u hu e=>h2 ?_⟩;unfold numP;rw[hu]
  simpa using e
def sgnQ (s:List UInt8):Option Int:=match s with
 | []=>none
 | c::r=>if c=45 then (if (numQ r).2=true∧0 < (numQ r).1∧(numQ r).1≤9223372036854775808 then some (-((numQ r).1:Int)) else none)
  else (if (numQ (c::r)).2=true∧(numQ (c::r)).1 < 9223372036854775808 then some ((numQ (c::r)).1:Int) else none)
theorem itoa_natN (n:Nat):Lib.itoa (n:Int)=Lib.decDigits n:=by unfold Lib.itoa;rw[if_neg (by omega)];rfl
theorem itoa_negN {n:Nat} (h:0 < n):Lib.itoa (-(n:Int))=45::Lib.decDigits n:=by
 unfold Lib.itoa;rw[if_pos (by omega)];simp
theorem numQ_dig {c:UInt8} {r:List UInt8} {u:Nat} (h:numQ (c::r)=(u,true)):48≤c.toNat∧c.toNat≤57:=by
 obtain⟨h1,-,-⟩:=numQ_ok h;unfold Lib.parseUintB at h1;split at h1
 ·cases h1
 ·have h2:=(puM_inv _ _ _ _ h1).1 c (by simp);exact(isDg_iff c).1 h2
def endN (r:Lib.NumEnd Nat):Lib.NumEnd Int:=match r with
 | .ok u=>if 9223372036854775808 < u then .range else .ok (-(u:Int))
 | Lib.NumEnd.syntax=>Lib.NumEnd.syntax
 | .range=>.range
def endP (r:Lib.NumEnd Nat):Lib.NumEnd Int:=match r with
 | .ok u=>if 9223372036854775808≤u then .range else .ok (u:Int)
 | Lib.NumEnd.syntax=>Lib.NumEnd.syntax
 | .range=>.range
theorem pInt_neg (r:List UInt8):Lib.parseIntB 64 (45::r)=endN (Lib.parseUintB 64 r):=by
 unfold Lib.parseIntB;simp only;rw[if_pos (show UInt8.toNat 45=43∨UInt8.toNat 45=45 from Or.inr rfl)];cases Lib.parseUintB 64 r with
 | range=>rfl
 | ok u=>
  have h45:(45:UInt8).toNat=45:=rfl;simp only[h45,not_true_eq_false,false_and,if_false,true_and,if_true,endN];try rfl
 | _=>rfl
theorem pInt_pos (c:UInt8) (r:List UInt8) (h1:c.toNat≠45) (h2:c.toNat≠43):Lib.parseIntB 64 (c::r)=endP (Lib.parseUintB 64 (c::r)):=by
 unfold Lib.parseIntB;simp only;rw[if_neg (show ¬ (c.toNat=43∨c.toNat=45)by omega)];cases Lib.parseUintB 64 (c::r)with
 | range=>rfl
 | ok u=>
  simp only[h1,not_false_eq_true,true_and,false_and,if_false,endP];try rfl
 | _=>rfl
theorem pInt_plus (c:UInt8) (r:List UInt8) (h2:c.toNat=43):Lib.parseIntB 64 (c::r)=endP (Lib.parseUintB 64 r):=by
 unfold Lib.parseIntB;simp only;rw[if_pos (show c.toNat=43∨c.toNat=45 from Or.inl h2)];have h1:c.toNat≠45:=(by omega);cases Lib.parseUintB 64 r with
 | range=>rfl
 | ok u=>
  simp only[h1,not_false_eq_true,true_and,false_and,if_false,endP];try rfl
 | _=>rfl
def itoS (s:List UInt8) (r:Lib.NumEnd Int):Option Int:=match r with
 | .ok v=>if Lib.itoa v=s then some v else none
 | _=>none
theorem intP_eq (s:List UInt8) {r:Lib.NumEnd Int} (h:Lib.parseIntB 64 s=r):intP s=itoS s r:=by
 rw[← h];rfl
theorem itoa_zeroN:Lib.itoa (-((0:Nat):Int))=[48]:=by
 rw[show(-((0:Nat):Int))=((0:Nat):Int)by simp,itoa_natN,dec_zeroN]
theorem sgnQ_eq (s:List UInt8):sgnQ s=intP s:=by
 cases s with
 | nil=>rfl
 | cons c r=>
  unfold sgnQ;simp only;by_cases hc:c=45
  ·subst hc;rw[if_pos rfl];have hI:=intP_eq (45::r) (pInt_neg r);cases hq:numQ r with
   | mk u b=>
    cases b with
    | true=>
     obtain⟨h1,h2,h3⟩:=numQ_ok hq;rw[h1]at hI;unfold endN at hI;simp only at hI;rw[hI];by_cases hu:9223372036854775808 < u
     ·rw[if_pos hu,if_neg (fun h=>by have:=h.2.2;simp only at this;omega)];rfl
     ·rw[if_neg hu];by_cases h0:0 < u
      ·rw[if_pos ⟨rfl,h0,by simp only;omega⟩];simp only[itoS];rw[itoa_negN h0,h2,if_pos rfl]
      ·obtain rfl:u=0:=by omega
       rw[if_neg (fun h=>by have:=h.2.1;simp only at this;omega)];simp only[itoS];rw[itoa_zeroN,if_neg (by intro e;cases e)]
    | false=>
     obtain⟨h1,h2⟩:=numQ_bad hq;rw[if_neg (fun h=>by cases h.1),hI];cases hp:Lib.parseUintB 64 r with
     | range=>rfl
     | ok v=>
      unfold endN;simp only;by_cases hu:9223372036854775808 < v
      ·rw[if_pos hu];rfl
      ·rw[if_neg hu];simp only[itoS];rw[if_neg];intro e;rcases Nat.eq_zero_or_pos v with h0|h0
       ·subst h0;rw[itoa_zeroN]at e;cases e
       ·rw[itoa_negN h0]at e;injection e with _ e
        exact h2 v hp e
     | _=>rfl
  ·have hcn:c.toNat≠45:=fun e=>hc (UInt8.toNat_inj.1 e)
   rw[if_neg hc];by_cases h43:c.toNat=43
   ·have hI:=intP_eq (c::r) (pInt_plus c r h43);cases hq:numQ (c::r)with
    | mk u b=>
     cases b with
     | true=>
      have:=numQ_dig hq;omega
     | false=>
      rw[if_neg (fun h=>by cases h.1),hI];cases hp:Lib.parseUintB 64 r with
      | range=>rfl
      | ok v=>
       unfold endP;simp only;by_cases hu:9223372036854775808≤v
       ·rw[if_pos hu];rfl
       ·rw[if_neg hu];simp only[itoS];rw[if_neg];intro e;rw[itoa_natN]at e;have hdg:=dec_digL v c (by rw[e];simp);have:=(isDg_iff c).1 hdg;omega
      | _=>rfl
   ·have hI:=intP_eq (c::r) (pInt_pos c r hcn h43);cases hq:numQ (c::r)with
    | mk u b=>
     cases b with
     | true=>
      obtain⟨h1,h2,h3⟩:=numQ_ok hq;rw[h1]at hI;unfold endP at hI;simp only at hI;rw[hI];by_cases hu:u < 9223372036854775808
      ·rw[if_pos ⟨rfl,hu⟩,if_neg (show ¬ 9223372036854775808≤u by omega)];simp only[itoS];rw[itoa_natN,h2,if_pos rfl]
      ·rw[if_neg (fun h=>hu h.2),if_pos (show 9223372036854775808≤u by omega)];rfl
     | false=>
      obtain⟨h1,h2⟩:=numQ_bad hq;rw[if_neg (fun h=>by cases h.1),hI];cases hp:Lib.parseUintB 64 (c::r)with
      | range=>rfl
      | ok v=>
       unfold endP;simp only;by_cases hu:9223372036854775808≤v
       ·rw[if_pos hu];rfl
       ·rw[if_neg hu];simp only[itoS];rw[if_neg];intro e;rw[itoa_natN]at e;exact h2 v hp e
      | _=>rfl
open Go.RowKit Go.Shelf
inductive RSt where
 | ok (ts:List TokD)
 | bad (no line col:Int)
def RSt.isOk:RSt→Prop
 | .ok _=>True
 | .bad _ _ _=>False
def RSt.run {α:Type} (st:RSt) (d:α) (p:List TokD→PR α):α×RSt:=match st with
 | .ok ts=>(match p ts with
  | .ok x ts'=>(x,.ok ts')
  | .bad n l c=>(d,.bad n l c))
 | .bad n l c=>(d,.bad n l c)
theorem run_bind {α β:Type} (st:RSt) (d1:α) (d:β) (p:List TokD→PR α) (f:α→List TokD→PR β):st.run d (fun ts=>(p ts).bind f)=(st.run d1 p).2.run d (f (st.run d1 p).1):=by
 cases st with
 | ok ts=>
  unfold RSt.run;simp only;cases p ts<;>rfl
 | bad n l c=>rfl
theorem run_isOk {α:Type} {st:RSt} {d:α} {p:List TokD→PR α} (h:(st.run d p).2.isOk):st.isOk:=by
 cases st with
 | ok ts=>trivial
 | bad n l c=>exact h
def RSt.wrong (st:RSt) (n:Int):RSt:=match st with
 | .ok ts=>.bad n (headT ts).line (headT ts).col
 | .bad a b c=>.bad a b c
def RSt.form (st:RSt):RSt:=match st with
 | .ok ts=>.bad (formN ts) (headT ts).line (headT ts).col
 | .bad a b c=>.bad a b c
def RSt.sees (st:RSt) (k:Int) (text:List UInt8):Bool:=match st with
 | .ok ts=>(headT ts).kind == k && (headT ts).text == text
 | .bad _ _ _=>false
def KindOK (t:TokD):Prop:=(t.kind=1→∃ c r,t.text=c::r∧ltU c.toNat=true)∧(t.kind=4→∃ c r,t.text=c::r∧ltU c.toNat=false)∧(t.kind=2→∃ x,readL t.text=some x)
structure TsW (T:List TokD):Prop where
 b:TsB T
 k:∀ t∈T,KindOK t
theorem TsB.drop {T:List TokD} (h:TsB T) {i:Nat} (hi:i < T.length):TsB (T.drop i):=by
 obtain⟨⟨l,e,rfl,he⟩,h2,h3⟩:=h;refine⟨⟨l.drop i,e,?_,he⟩,fun t ht=>h2 t (List.mem_of_mem_drop ht),by rw[List.length_drop];omega⟩;rw[List.length_append,List.length_singleton]at hi;rw[List.drop_append_of_le_length (by omega)]
theorem head_drop {T:List TokD} {i:Nat} (hi:i < T.length):headT (T.drop i)=T[i]:=by
 rw[List.drop_eq_getElem_cons hi];rfl
theorem tail_drop {T:List TokD} (i:Nat):(T.drop i).tail=T.drop (i+1):=by
 rw[List.tail_drop]
def SeeOK (k:Int) (text:List UInt8):Prop:=∃ c r,text=c::r∧((k=1∧ltU c.toNat=true)∨(k=4∧ltU c.toNat=false))
theorem sees_eq {T:List TokD} (hT:TsW T) {i:Nat} (hi:i < T.length) {k:Int} {text:List UInt8} (h:SeeOK k text):(RSt.ok (T.drop i)).sees k text=seesB text (T.drop i):=by
 have hk:=hT.k _ (List.getElem_mem hi);unfold RSt.sees seesB;simp only;rw[head_drop hi];generalize T[i]=t at *;obtain⟨c,r,rfl,h⟩:=h;by_cases ht:t.text=c::r
 ·rw[decide_eq_true ht,beq_iff_eq.2 ht,Bool.and_true,Bool.true_and];rcases h with ⟨rfl,hc⟩|⟨rfl,hc⟩
  ·have h4:t.kind≠4:=fun e=>by
    obtain⟨c2,r2,e2,h2⟩:=hk.2.1 e;rw[ht]at e2;cases e2
    rw[hc]at h2;cases h2
   rw[bN h4,Bool.or_false]
  ·have h1:t.kind≠1:=fun e=>by
    obtain⟨c2,r2,e2,h2⟩:=hk.1 e;rw[ht]at e2;cases e2
    rw[hc]at h2;cases h2
   rw[bN h1,Bool.false_or]
 ·rw[decide_eq_false ht,bN ht,Bool.and_false,Bool.false_and]
def RAtI (w:World) (kr:Nat) (T:List TokD) (i:Nat) (no l c:Int):Prop:=
 ∃ a cap,w.heap[kr]? = some (.cells #[.slice a T.length cap,.int .i64 (i:Nat),.int .i64 no,.int .i64 l,.int .i64 c] 100)∧SlOf w enTok 4 a cap T∧∀ b o,a=some ⟨b,o,none⟩→b < kr
def RAt (w:World) (kr:Nat) (T:List TokD) (st:RSt):Prop:=match st with
 | .ok ts=>∃ i,i < T.length∧ts=T.drop i∧RAtI w kr T i 0 0 0
 | .bad no l c=>no≠0∧∃ i,i≤T.length∧RAtI w kr T i no l c
theorem RAtI.other {w w':World} {kr:Nat} {T:List TokD} {i:Nat} {no l c:Int} (h:RAtI w kr T i no l c) (hb:∀ b,b≤kr→w'.heap[b]? = w.heap[b]?):RAtI w' kr T i no l c:=by
 obtain⟨a,cap,h1,h2,h3⟩:=h;exact⟨a,cap,(hb kr lrf).trans h1,h2.of_block fun b o e=>hb b (Nat.le_of_lt (h3 b o e)),h3⟩
theorem RAtI.lt {w:World} {kr:Nat} {T:List TokD} {i:Nat} {no l c:Int} (h:RAtI w kr T i no l c):kr < w.heap.size:=by
 obtain⟨a,cap,h1,-⟩:=h;exact(gE h1)
theorem RAtI.keep {w w':World} {kr:Nat} {T:List TokD} {i:Nat} {no l c:Int} (h:RAtI w kr T i no l c) (hb:Below w.heap.size w w'):RAtI w' kr T i no l c:=by
 have:=h.lt;exact h.other fun b hbk=>hb.block b (by omega)
theorem RAt.other {w w':World} {kr:Nat} {T:List TokD} {st:RSt} (h:RAt w kr T st) (hb:∀ b,b≤kr→w'.heap[b]? = w.heap[b]?):RAt w' kr T st:=by
 cases st with
 | ok ts=>obtain⟨i,h1,h2,h3⟩:=h;exact⟨i,h1,h2,h3.other hb⟩
 | bad n l c=>obtain⟨h0,i,h1,h3⟩:=h;exact⟨h0,i,h1,h3.other hb⟩
theorem RAt.lt {w:World} {kr:Nat} {T:List TokD} {st:RSt} (h:RAt w kr T st):kr < w.heap.size:=by
 cases st with
 | ok ts=>obtain⟨i,h1,h2,h3⟩:=h;exact h3.lt
 | bad n l c=>obtain⟨h0,i,h1,h3⟩:=h;exact h3.lt
theorem RAt.keep {w w':World} {kr:Nat} {T:List TokD} {st:RSt} (h:RAt w kr T st) (hb:Below w.heap.size w w'):RAt w' kr T st:=by
 have:=h.lt;exact h.other fun b hbk=>hb.block b (by omega)
theorem RAt.row {w:World} {kr:Nat} {T:List TokD} {st:RSt} (h:RAt w kr T st) {k:Nat} (hk:kr < k) (L:Array Value):RAt (w.setRow k L) kr T st:=h.other fun b hb=>heap_setRow_other _ _ _ _ (by omega)
theorem RAt.set {w:World} {kr:Nat} {T:List TokD} {st:RSt} (h:RAt w kr T st) {k:Nat} (hk:kr < k) (j:Nat) (v:Value):RAt (w.setCell ⟨k,j,none⟩ v) kr T st:=h.other fun b hb=>Below.heap_setCell _ _ _ _ (show b≠k by omega)
theorem RAt.low {kr B:Nat} {W w1:World} {T:List TokD} {st:RSt} (h:RAt W kr T st) (hk:kr < B) (hb:Below B W w1):RAt w1 kr T st:=h.other fun b hb'=>hb.block b (by omega)
theorem RAtI.next {w:World} {kr:Nat} {T:List TokD} {i:Nat} {no l c:Int} (h:RAtI w kr T i no l c):RAtI (w.setCell ⟨kr,1,none⟩ (.int .i64 ((i+1:Nat):Int))) kr T (i+1) no l c:=by
 obtain⟨a,cap,h1,h2,h3⟩:=h;exact⟨a,cap,set_at h1 1 _,h2.of_block fun b o e=>Below.heap_setCell _ _ _ _ (show b≠kr by have:=h3 b o e;omega),h3⟩
def hdT (T:List TokD) (i:Nat):TokD:=T.getD (min i (T.length - 1)) ⟨0,[],0,0⟩
theorem hdT_ok {T:List TokD} {i:Nat} (hi:i < T.length):hdT T i=headT (T.drop i):=by
 rw[head_drop hi];unfold hdT;rw[Nat.min_eq_left (by omega),List.getD_eq_getElem?_getD,List.getElem?_eq_getElem hi];rfl
def RPst (kr:Nat) (w:World) (T:List TokD) (V:Value) (st:RSt) (e:Ending) (w':World):Prop:=e=.returned V∧Only kr w w'∧RAt w' kr T st
open Go.Proofs.Tryz
theorem wpStill_loadR {P:Program} {ops:Array Oper} {W:World} {Q:Act→Prop} {rest:List Oper} {o:Oper} {a:Act} {k off:Nat} {cs:List Value} (hS:W.rangeAt k off cs) (ty:TypeId) (x:Operand) {d:TypeDesc}
  (hu:P.underlying ty=some d) (hi:(P.info? ty).map (·.size)=some cs.length)
  (h:wpStill P ops W Q rest (a.put o.dst (.agg cs.toArray)))
  (hgd:o.guard=none:=by rfl) (ho:o.op=.load ty x:=by rfl) (hx:a.eval x=.pointer (some ⟨k,off,none⟩):=by rfl) (hd:d.isRow=true:=by rfl):wpStill P ops W Q (o::rest) a:=by
 unfold wpStill;rw[if_pos (by simp[Region.wanted,hgd])];unfold Oper.still execOp;simp only[ho,hx,Instr.loadAt,Instr.sureAddr,Sem.run_bind,Sem.run_pure,Result.andThen_ok,run_loadVar_mid (P:=P) W k off ty cs d hS hu hd hi];exact⟨rfl,h⟩
set_option maxRecDepth 100000 in theorem red_now (T : List TokD) (hT : 0 < T.length) (hl : T.length ≤ 4000000) (i : Nat) (no l c : Int) (kr : Nat) (w : World) (hi : i ≤ T.length) (h : RAtI w kr T i no l c) :
  Calls prog 24 #[.pointer (some ⟨kr,0,none⟩)] w fun e w'=>e=.returned (tkV (hdT T i))∧Below w.heap.size w w':=by
 obtain⟨a,cap,hk,hs,-⟩:=h;obtain⟨m,hm⟩:∃ m,m=min i (T.length - 1):=⟨_,rfl⟩
 have hmT:m < T.length:=(by omega);obtain⟨b,o,rfl,hb,hc⟩:=SlOf.cells hs enTok_len (by decide) hmT;have hb1:Below w.heap.size w (w.alloc (.cells zeroTok 103)):=(Below.refl _ _).alloc lrf _;have f0:(w.alloc (.cells zeroTok 103)).cell? ⟨kr,0,none⟩=some (.slice (some ⟨b,o,none⟩) T.length cap):=cell_keep' (Blk.cell ⟨_,hk⟩ 0 _ rfl) hb1;have f1:(w.alloc (.cells zeroTok 103)).cell? ⟨kr,1,none⟩=some (.int .i64 (i:Nat)):=cell_keep' (Blk.cell ⟨_,hk⟩ 1 _ rfl) hb1;have hrg:(w.alloc (.cells zeroTok 103)).rangeAt b (o+m*4) (enTok T[m]):=fun j v hv=>by
  have hj:j < 4:=(by have:=(List.getElem?_eq_some_iff.1 hv).1;rwa [enTok_len]at this);have:=hc j hj;rw[← Nat.add_assoc]at this;exact cell_keep' (this.trans hv) hb1
 have hH:hdT T i=T[m]:=by
  unfold hdT;rw[← hm,List.getD_eq_getElem?_getD,List.getElem?_eq_getElem hmT];rfl
 rw[hH];have b2:Blk (w.alloc (.cells zeroTok 103)) w.heap.size zeroTok:=Blk.new w zeroTok _;have hu:=underlying103;obtain⟨L,hL⟩:∃ L,L=enTok T[m]:=⟨_,rfl⟩
 have hL4:L.length=4:=(by rw[hL];rfl);have hL1:L.toArray.all (·.oneCell')=true:=(by rw[hL];exact tok_one _);have hsz:(prog.info? 103).map (·.size)=some L.length:=(by rw[hL4];exact tok_size);have hsA:L.toArray.size=4:=(by simpa using hL4);unfold tkV;rw[← hL]at hrg ⊢;have HB:=Qh hb1;have hn:T.length < 4611686018427387904:=(by omega);clear hs hc hL hH hk hb1;generalize T.length=n at *;have hlast:((n:Int) - 1)=((n - 1:Nat):Int):=(by omega);have HLA:=Qh hlast;have hw:IntKind.i64.wrap ((n:Int) - 1)=((n - 1:Nat):Int):=(by unfold IntKind.wrap;simp[IntKind.bits,IntKind.signed];omega);have hmin:min (i:Int) ((n - 1:Nat):Int)=(m:Int):=(by omega);have hi3:(m:Int) < n:=(by omega);clear hlast hm hn hi hl HLA;generalize n - 1=n1 at *;go_enter func24,ntmps24
 go_wp2_with fail;generalize w.alloc (.cells zeroTok 103)=W at *;have hrgd:W.drew.rangeAt b (o+m*4) L:=hrg;have b2d:Blk W.drew w.heap.size zeroTok:=b2;refine wp_region_still_tail 17 (by kernel_rfl) (by kernel_rfl) ?_;simp only[List.take_succ_cons,List.take_zero,List.drop_succ_cons,List.drop_zero]
 repeat (first|(refine wpStill_loadR (W:=W.drew) hrgd 103 (.tmp 18) hu hsz ?_;simp only[Act.put,List.setIfInBounds_toArray,List.set_cons_zero,List.set_cons_succ])|still_step)
 refine wpStill_nil ?_;change wpList _ _ _ _ _ W.drew;go_wp2_with (refine wpList_storeS (cs:=L.toArray) b2d 103 (.tmp 2) (.tmp 19) (by rw[hsA];exact tok_size) (by rw[hsA];rfl) hL1 ?_)
 have hrun:=run_loadS (b2d.row L.toArray) 103 _ hu rfl (by rw[hsA];exact tok_size);refine bodyPost_ret (v:=.agg L.toArray) (by simp[results,results24,Act.put,asAddr,hrun]) rfl ⟨rfl,below_row HB.out.drew lrf _⟩
theorem RAtI.put2 {w:World} {kr:Nat} {T:List TokD} {i:Nat} {no l c:Int} (h:RAtI w kr T i no l c) (n:Int):RAtI (w.setCell ⟨kr,2,none⟩ (.int .i64 n)) kr T i n l c:=by
 obtain⟨a,cap,h1,h2,h3⟩:=h;exact⟨a,cap,set_at h1 2 _,h2.of_block fun b o e=>Below.heap_setCell _ _ _ _ (show b≠kr by have:=h3 b o e;omega),h3⟩
theorem RAtI.put3 {w:World} {kr:Nat} {T:List TokD} {i:Nat} {no l c:Int} (h:RAtI w kr T i no l c) (n:Int):RAtI (w.setCell ⟨kr,3,none⟩ (.int .i64 n)) kr T i no n c:=by
 obtain⟨a,cap,h1,h2,h3⟩:=h;exact⟨a,cap,set_at h1 3 _,h2.of_block fun b o e=>Below.heap_setCell _ _ _ _ (show b≠kr by have:=h3 b o e;omega),h3⟩
theorem RAtI.put4 {w:World} {kr:Nat} {T:List TokD} {i:Nat} {no l c:Int} (h:RAtI w kr T i no l c) (n:Int):RAtI (w.setCell ⟨kr,4,none⟩ (.int .i64 n)) kr T i no l n:=by
 obtain⟨a,cap,h1,h2,h3⟩:=h;exact⟨a,cap,set_at h1 4 _,h2.of_block fun b o e=>Below.heap_setCell _ _ _ _ (show b≠kr by have:=h3 b o e;omega),h3⟩
theorem RAtI.cells {w:World} {kr:Nat} {T:List TokD} {i:Nat} {no l c:Int} (h:RAtI w kr T i no l c):∃ v:Value,Blk w kr #[v,.int .i64 (i:Nat),.int .i64 no,.int .i64 l,.int .i64 c]:=by
 obtain⟨a,cap,h1,-⟩:=h;exact⟨_,_,h1⟩
theorem RAtI.of_ok {w:World} {kr:Nat} {T:List TokD} {i:Nat} (h:RAtI w kr T i 0 0 0) (hi:i < T.length):RAt w kr T (.ok (T.drop i)):=⟨i,hi,rfl,h⟩
theorem RAtI.of_bad {w:World} {kr:Nat} {T:List TokD} {i:Nat} {no l c:Int} (h:RAtI w kr T i no l c) (hi:i≤T.length) (hn:no≠0):RAt w kr T (.bad no l c):=⟨hn,i,hi,h⟩
set_option maxRecDepth 100000 in theorem red_wrong (n : Int) (hn : n ≠ 0) (T : List TokD) (hT : TsW T) (st : RSt) (kr : Nat) (w : World) (h : RAt w kr T st) :
  Calls prog 29 #[.pointer (some ⟨kr,0,none⟩),.int .i64 n] w fun e w'=>RPst kr w T (.tuple #[]) (st.wrong n) e w':=by
 have hpos:=hT.b.1.pos;have hlen:=hT.b.2.2;cases st with
 | bad no l c=>
  obtain⟨h0,i,hi,hr⟩:=h;obtain⟨v,hc⟩:=hr.cells;have c2:=hc.cell 2 (.int .i64 no) rfl;have e0:=bN h0;have HR:=Qh (show RAt w kr T (.bad no l c)from ⟨h0,i,hi,hr⟩);clear hr hc;go_enter func29,ntmps29
  go_wp2_with fail;refine⟨rfl,.tuple #[],by simp[results,results29],rfl,Only.of_below kr (Below.refl _ _),HR.out⟩
 | ok ts=>
  obtain⟨i,hi,rfl,hr⟩:=h;obtain⟨v,hc⟩:=hr.cells;have c2:=hc.cell 2 (.int .i64 0) rfl;have r2:=hc.free 2;have hr2:=hr.put2 n;have HO:=Qh ((Only.of_below kr (Below.refl w.heap.size w)).set 2 (.int .i64 n));have HR:=Qh hr2;have HD:=Qh (hdT_ok hi);clear hr hc hr2;go_enter func29,ntmps29
  go_upto_region 2 with fail
  clear c2 r2;generalize w.setCell ⟨kr,2,none⟩ (.int .i64 n)=w1 at *;have cn:=red_now T hpos hlen i n 0 0 kr w1 (Nat.le_of_lt hi) HR.out;unfold tkV enTok at cn;have hf2:=tk_f2;go_wp2_with fail;(with_reducible refine cn.mono ?_);rintro e w2 ⟨rfl,hb⟩;have HR2:=Qh (HR.out.keep hb);have HO2:=Qh (HO.out.trans (Only.of_below kr hb));obtain⟨v2,hc⟩:=HR2.out.cells;rw[HD.out];have HW:=Qh (show(RSt.ok (T.drop i)).wrong n=.bad n (headT (T.drop i)).line (headT (T.drop i)).col from rfl);generalize (headT (T.drop i)).line=L at *;generalize (headT (T.drop i)).col=C at *;have c3:=hc.cell 3 (.int .i64 0) rfl;have r3:=hc.free 3;have c4:=hc.cell 4 (.int .i64 0) rfl;have r4:=hc.free 4;have d4:∀ x,(w2.setCell ⟨kr,3,none⟩ x).cell? ⟨kr,4,none⟩=some (.int .i64 0):=fun x=>(hc.put 3 x).cell 4 _ rfl
  have s4:∀ x,(w2.setCell ⟨kr,3,none⟩ x).frozen? ⟨kr,4,none⟩=false:=fun x=>(hc.put 3 x).free 4
  clear cn hb hc HD;go_wp2_with fail;refine⟨rfl,.tuple #[],by simp[results,results29],rfl,(HO2.out.set 3 _).set 4 _,?_⟩;rw[HW.out];exact((HR2.out.put3 L).put4 C).of_bad (Nat.le_of_lt hi) hn
set_option maxRecDepth 100000 in theorem red_form (T : List TokD) (hT : TsW T) (st : RSt) (kr : Nat) (w : World) (h : RAt w kr T st) :
  Calls prog 32 #[.pointer (some ⟨kr,0,none⟩)] w fun e w'=>RPst kr w T (.tuple #[]) st.form e w':=by
 have hpos:=hT.b.1.pos;have hlen:=hT.b.2.2;have hf0:=tk_f0;cases st with
 | bad no l c=>
  have h':=h;obtain⟨h0,i,hi,hr⟩:=h';have cn:=red_now T hpos hlen i no l c kr w hi hr;have cw:=fun n hn W hW=>red_wrong n hn T hT (.bad no l c) kr W hW
  have HR:=Qh h;unfold tkV enTok at cn;generalize hdT T i=t at *;clear hr h;by_cases hk:t.kind=0
  ·go_enter func32,ntmps32
   go_wp2_with fail;(with_reducible refine cn.mono ?_);rintro e w1 ⟨rfl,hb⟩;have cW:=cw 2 (by decide) w1 (HR.out.keep hb);have HO:=Qh (Only.of_below kr hb);rw[hk];clear hb cn cw;go_wp2_with fail;(with_reducible refine cW.mono ?_);rintro e w2 ⟨rfl,ho,hq⟩;have HO2:=Qh (HO.out.trans ho);have HQ:=Qh hq;clear ho hq cW;go_wp2_with fail;refine⟨rfl,.tuple #[],by simp[results,results32],rfl,HO2.out,HQ.out⟩
  ·have e0:=bN hk;go_enter func32,ntmps32
   go_wp2_with fail;(with_reducible refine cn.mono ?_);rintro e w1 ⟨rfl,hb⟩;have cW:=cw 4 (by decide) w1 (HR.out.keep hb);have HO:=Qh (Only.of_below kr hb);generalize t.kind=K at *;clear hb cn cw;go_wp2_with fail;(with_reducible refine cW.mono ?_);rintro e w2 ⟨rfl,ho,hq⟩;have HO2:=Qh (HO.out.trans ho);have HQ:=Qh hq;clear ho hq cW;go_wp2_with fail;refine⟨rfl,.tuple #[],by simp[results,results32],rfl,HO2.out,HQ.out⟩
 | ok ts=>
  have h':=h;obtain⟨i,hi,rfl,hr⟩:=h';have cn:=red_now T hpos hlen i 0 0 0 kr w (Nat.le_of_lt hi) hr;rw[hdT_ok hi]at cn;have cw:=fun n hn W hW=>red_wrong n hn T hT (.ok (T.drop i)) kr W hW
  have HR:=Qh h;have HF:=Qh (show(RSt.ok (T.drop i)).form=(RSt.ok (T.drop i)).wrong (formN (T.drop i))from rfl);unfold formN at HF;unfold tkV enTok at cn;clear hr h;by_cases hk:(headT (T.drop i)).kind=0
  ·go_enter func32,ntmps32
   go_wp2_with fail;(with_reducible refine cn.mono ?_);rintro e w1 ⟨rfl,hb⟩;have cW:=cw 2 (by decide) w1 (HR.out.keep hb);have HO:=Qh (Only.of_below kr hb);have HF2:=Qh (show(RSt.ok (T.drop i)).form=(RSt.ok (T.drop i)).wrong 2 by rw[HF.out,if_pos hk]);rw[hk];clear hb cn cw;go_wp2_with fail;(with_reducible refine cW.mono ?_);rintro e w2 ⟨rfl,ho,hq⟩;have HO2:=Qh (HO.out.trans ho);have HQ:=Qh hq;clear ho hq cW;go_wp2_with fail;refine⟨rfl,.tuple #[],by simp[results,results32],rfl,HO2.out,?_⟩;rw[HF2.out];exact HQ.out
  ·have e0:=bN hk;go_enter func32,ntmps32
   go_wp2_with fail;(with_reducible refine cn.mono ?_);rintro e w1 ⟨rfl,hb⟩;have cW:=cw 4 (by decide) w1 (HR.out.keep hb);have HO:=Qh (Only.of_below kr hb);have HF2:=Qh (show(RSt.ok (T.drop i)).form=(RSt.ok (T.drop i)).wrong 4 by rw[HF.out,if_neg hk]);generalize (headT (T.drop i)).kind=K at *;clear hb cn cw;go_wp2_with fail;(with_reducible refine cW.mono ?_);rintro e w2 ⟨rfl,ho,hq⟩;have HO2:=Qh (HO.out.trans ho);have HQ:=Qh hq;clear ho hq cW;go_wp2_with fail;refine⟨rfl,.tuple #[],by simp[results,results32],rfl,HO2.out,?_⟩;rw[HF2.out];exact HQ.out
def tok0:TokD:=⟨0,[],0,0⟩
def RSt.named (st:RSt):Bool:=match st with
 | .ok ts=>namedB ts
 | .bad _ _ _=>false
theorem RAtI.step {w:World} {kr:Nat} {T:List TokD} {i:Nat} (h:RAtI w kr T i 0 0 0) (hT:TsW T) (hi:i < T.length) (hk:(headT (T.drop i)).kind≠0):RAt (w.setCell ⟨kr,1,none⟩ (.int .i64 ((i:Int)+1))) kr T (.ok (T.drop i).tail):=by
 have h1:=((hT.b.drop hi).tail hk).1.pos;rw[tail_drop]at h1 ⊢;rw[List.length_drop]at h1;exact⟨i+1,by omega,rfl,h.next⟩
theorem tok_cells (w:World) (t:TokD):(w.alloc (.cells (enTok t).toArray 103)).cell? ⟨w.heap.size,0,none⟩=some (.int .i64 t.kind)∧(w.alloc (.cells (enTok t).toArray 103)).cell? ⟨w.heap.size,1,none⟩=some (.string ⟨t.text.toArray⟩):=
 ⟨(Blk.new w _ _).cell 0 _ rfl,(Blk.new w _ _).cell 1 _ rfl⟩
set_option maxRecDepth 100000 in theorem red_sees (k : Int) (text : List UInt8) (T : List TokD) (hT : TsW T) (st : RSt) (kr : Nat) (w : World) (h : RAt w kr T st) :
  Calls prog 23 #[.pointer (some ⟨kr,0,none⟩),.int .i64 k,.string ⟨text.toArray⟩] w fun e w'=>e=.returned (.bool (st.sees k text))∧Below w.heap.size w w':=by
 have hpos:=hT.b.1.pos;have hlen:=hT.b.2.2;obtain⟨B,hB⟩:∃ B,B=st.sees k text:=⟨_,rfl⟩
 rw[← hB];unfold RSt.sees at hB;obtain⟨i,no,l,c,t,hi,hr,hd,hbv⟩:∃ (i:Nat) (no l c:Int) (t:TokD),i≤T.length∧RAtI w kr T i no l c∧hdT T i=t∧B=((no == 0) && (t.kind == k && t.text == text)):=by
  cases st with
  | ok ts=>
   obtain⟨i,hi,rfl,hr⟩:=h;exact⟨i,0,0,0,_,Nat.le_of_lt hi,hr,hdT_ok hi,by rw[hB];rfl⟩
  | bad no l c=>
   obtain⟨h0,i,hi,hr⟩:=h;exact⟨i,no,l,c,_,hi,hr,rfl,by rw[hB,bN h0];rfl⟩
 have cn:=red_now T hpos hlen i no l c kr w hi hr;rw[hd]at cn;unfold tkV at cn;have HR:=Qh hr;have HBV:=Qh hbv;have hL1:=tok_one t;have hsz:(enTok t).toArray.size=4:=rfl;have HTC:=Qh (fun W=>tok_cells W t);generalize (enTok t).toArray=L at *;clear hB hbv hr hd h;go_enter func23,ntmps23
 go_wp2_with fail;(with_reducible refine cn.mono ?_);rintro e w1 ⟨rfl,hb⟩;have HB:=Qh (hb.alloc hb.size (.cells L 103));have hc0:=(HR.out.keep hb).cells;obtain⟨v,hc⟩:=hc0;have hba:Below w1.heap.size w1 (w1.alloc (.cells L 103)):=(Below.refl _ _).alloc lrf _;have f2:=(hc.keep hba lrf).cell 2 (.int .i64 no) rfl;obtain⟨f0,f1⟩:=HTC.out w1;clear cn hb hc hba;go_upto_region 2 with (refine wpList_newS (Z:=zeroTok) (cs:=L) 103 (.tmp 7) (.tmp 9) (by rw[hsz];exact tok_zero) (by rw[hsz];rfl) hL1 ?_)
 generalize w1.alloc (.cells L 103)=W at *;generalize w1.heap.size=k1 at *;have HQ:=Qh (ba_eq t.text text);generalize t.kind=K at *;generalize t.text=X at *;by_cases h0:no=0
 ·subst h0;by_cases hk:K=k
  ·subst hk;by_cases hx:(⟨X.toArray⟩:ByteArray)=⟨text.toArray⟩
   ·have hv:B=true:=(by rw[HBV.out,beq_iff_eq.2 (HQ.out.1 hx)];simp);have HV:=Qh hv;rw[hx]at f1;go_wp2_with fail;go_ret;exact⟨by rw[HV.out]<;>rfl,HB.out⟩
   ·have hne:X≠text:=fun e=>hx (HQ.out.2 e)
    have hv:B=false:=(by rw[HBV.out,bN hne];simp);have HV:=Qh hv;have en:=bN hne;go_wp2_with fail;go_ret;exact⟨by rw[HV.out]<;>rfl,HB.out⟩
  ·have hv:B=false:=(by rw[HBV.out,bN hk];simp);have HV:=Qh hv;have ek:=bN hk;go_wp2_with fail;go_ret;exact⟨by rw[HV.out]<;>rfl,HB.out⟩
 ·have e0:=bN h0;have HV:=Qh (show B=false by rw[HBV.out,e0];rfl);go_wp2_with fail;go_ret;exact⟨by rw[HV.out]<;>rfl,HB.out⟩
set_option maxRecDepth 100000 in theorem red_must (k : Int) (text : List UInt8) (hs : SeeOK k text) (T : List TokD) (hT : TsW T) (st : RSt) (kr : Nat) (w : World) (h : RAt w kr T st) :
  Calls prog 26 #[.pointer (some ⟨kr,0,none⟩),.int .i64 k,.string ⟨text.toArray⟩] w fun e w'=>RPst kr w T (.tuple #[]) (st.run tok0 (mustR text)).2 e w':=by
 have cs:=red_sees k text T hT st kr w h;have cf:=fun W hW=>red_form T hT st kr W hW
 have hlen:=hT.b.2.2;obtain⟨R,hR⟩:∃ R,R=(st.run tok0 (mustR text)).2:=⟨_,rfl⟩
 rw[← hR];have HR:=Qh h;cases hS:st.sees k text with
 | false=>
  have HV:=Qh (show R=st.form by
   rw[hR];cases st with
   | bad n l c=>rfl
   | ok ts=>
    obtain⟨i,hi,rfl,-⟩:=h;rw[sees_eq hT hi hs]at hS;unfold RSt.run mustR;simp only;rw[hS];rfl)
  rw[hS]at cs;clear hR hS h;go_enter func26,ntmps26
  go_wp2_with fail;(with_reducible refine cs.mono ?_);rintro e w1 ⟨rfl,hb⟩;have cF:=cf w1 (HR.out.keep hb);have HO:=Qh (Only.of_below kr hb);clear cs cf hb;go_wp2_with fail;(with_reducible refine cF.mono ?_);rintro e w2 ⟨rfl,ho,hq⟩;have HO2:=Qh (HO.out.trans ho);have HQ:=Qh hq;clear cF ho hq;go_wp2_with fail;refine⟨rfl,.tuple #[],by simp[results,results26],rfl,HO2.out,?_⟩;rw[HV.out];exact HQ.out
 | true=>
  cases st with
  | bad n l c=>cases hS
  | ok ts=>
   obtain⟨i,hi,rfl,hr⟩:=h;rw[hS]at cs;rw[sees_eq hT hi hs]at hS;have HV:=Qh (show R=.ok (T.drop i).tail by
    rw[hR];unfold RSt.run mustR;simp only;rw[hS];rfl)
   have HK:=Qh (sees_kind hS);have HRI:=Qh hr;clear hR hS hr;go_enter func26,ntmps26
   go_wp2_with fail;(with_reducible refine cs.mono ?_);rintro e w1 ⟨rfl,hb⟩;have HO:=Qh (Only.of_below kr hb);have hr1:=HRI.out.keep hb;have HRS:=Qh (hr1.step hT hi HK.out);obtain⟨v,hc⟩:=hr1.cells;have f1:=hc.cell 1 (.int .i64 (i:Nat)) rfl;have r1:=hc.free 1;clear cs cf hb hr1 hc;go_wp2_with fail;refine⟨rfl,.tuple #[],by simp[results,results26],rfl,HO.out.set 1 _,?_⟩;rw[HV.out];exact HRS.out
set_option maxRecDepth 100000 in theorem red_word (s : List UInt8) (w : World) :
  Calls prog 82 #[.string ⟨s.toArray⟩] w fun e w'=>e=.returned (.bool (decide (s∈sixW)))∧Below w.heap.size w w':=by
 by_cases hm:s∈sixW
 ·rw[decide_eq_true hm];unfold sixW at hm;simp only[List.mem_cons,List.not_mem_nil,or_false]at hm;rcases hm with rfl|rfl|rfl|rfl|rfl|rfl
  all_goals
   go_enter func82,ntmps82
   go_wp2_with fail;go_ret;exact⟨rfl,Below.refl _ _⟩
 ·rw[decide_eq_false hm];unfold sixW at hm;simp only[List.mem_cons,List.not_mem_nil,or_false,not_or]at hm;obtain⟨h1,h2,h3,h4,h5,h6⟩:=hm;have e1:=bN h1;have e2:=bN h2;have e3:=bN h3;have e4:=bN h4;have e5:=bN h5;have e6:=bN h6;go_enter func82,ntmps82
  go_wp2_with fail;go_ret;exact⟨rfl,Below.refl _ _⟩
set_option maxRecDepth 100000 in theorem red_named (T : List TokD) (hT : TsW T) (st : RSt) (kr : Nat) (w : World) (h : RAt w kr T st) :
  Calls prog 27 #[.pointer (some ⟨kr,0,none⟩)] w fun e w'=>e=.returned (.bool st.named)∧Below w.heap.size w w':=by
 have hpos:=hT.b.1.pos;have hlen:=hT.b.2.2;obtain⟨B,hB⟩:∃ B,B=st.named:=⟨_,rfl⟩
 rw[← hB];unfold RSt.named at hB;obtain⟨i,no,l,c,t,hi,hr,hd,hbv⟩:∃ (i:Nat) (no l c:Int) (t:TokD),i≤T.length∧RAtI w kr T i no l c∧hdT T i=t∧B=((no == 0) && (!decide (t.text∈sixW) && t.kind == 1)):=by
  cases st with
  | ok ts=>
   obtain⟨i,hi,rfl,hr⟩:=h;exact⟨i,0,0,0,_,Nat.le_of_lt hi,hr,hdT_ok hi,by rw[hB];rfl⟩
  | bad no l c=>
   obtain⟨h0,i,hi,hr⟩:=h;exact⟨i,no,l,c,_,hi,hr,rfl,by rw[hB,bN h0];rfl⟩
 have cn:=red_now T hpos hlen i no l c kr w hi hr;rw[hd]at cn;unfold tkV at cn;have HR:=Qh hr;have HBV:=Qh hbv;have hL1:=tok_one t;have hsz:(enTok t).toArray.size=4:=rfl;have HTC:=Qh (fun W=>tok_cells W t);generalize (enTok t).toArray=L at *;have cw:=fun W=>red_word t.text W
 clear hB hbv hr hd h;go_enter func27,ntmps27
 go_wp2_with fail;(with_reducible refine cn.mono ?_);rintro e w1 ⟨rfl,hb⟩;have HB:=Qh (hb.alloc hb.size (.cells L 103));have hc0:=(HR.out.keep hb).cells;obtain⟨v,hc⟩:=hc0;have hba:Below w1.heap.size w1 (w1.alloc (.cells L 103)):=(Below.refl _ _).alloc lrf _;have f2:=(hc.keep hba lrf).cell 2 (.int .i64 no) rfl;obtain⟨f0,f1⟩:=HTC.out w1;clear cn hb hc hba;go_upto_region 2 with (refine wpList_newS (Z:=zeroTok) (cs:=L) 103 (.tmp 3) (.tmp 5) (by rw[hsz];exact tok_zero) (by rw[hsz];rfl) hL1 ?_)
 generalize w1.alloc (.cells L 103)=W at *;generalize w1.heap.size=k1 at *;generalize decide (t.text∈sixW)=D at *;generalize t.kind=K at *;generalize t.text=X at *;by_cases h0:no=0
 ·subst h0;by_cases hk:K=1
  ·subst hk;have HV:=Qh (show B = !D by rw[HBV.out];simp);go_wp2_with fail;with_reducible refine(cw _).mono ?_
   rintro e w2 ⟨rfl,hb⟩;have HB2:=Qh (bstep HB.out hb lrf);clear hb cw;go_wp2_with fail;go_ret;exact⟨by rw[HV.out]<;>rfl,HB2.out⟩
  ·have hv:B=false:=(by rw[HBV.out,bN hk];simp);have HV:=Qh hv;have ek:=bN hk;go_wp2_with fail;go_ret;exact⟨by rw[HV.out]<;>rfl,HB.out⟩
 ·have e0:=bN h0;have HV:=Qh (show B=false by rw[HBV.out,e0];rfl);go_wp2_with fail;go_ret;exact⟨by rw[HV.out]<;>rfl,HB.out⟩
set_option maxRecDepth 100000 in theorem red_number (s : List UInt8) (hs : s.length ≤ 1048576) (w : World) :
  Calls prog 135 #[.string ⟨s.toArray⟩] w fun e w'=>e=.returned (.tuple #[.int .u64 ((numQ s).1:Nat),.bool (numQ s).2])∧Below w.heap.size w w':=by
 obtain⟨V,hV⟩:∃ V,V=numQ s:=⟨_,rfl⟩
 rw[← hV];unfold numQ at hV;cases hz:numZ s with
 | true=>
  rw[hz,if_pos rfl]at hV;have HV:=Qh hV;clear hV;cases s with
  | nil=>
   go_enter func135,ntmps135
   go_wp2_with fail;go_ret2
   exact⟨by rw[HV.out]<;>rfl,Below.refl _ _⟩
  | cons c r=>
   unfold numZ at hz;simp only[Bool.and_eq_true,beq_iff_eq]at hz;obtain⟨rfl,hr⟩:=hz;cases r with
   | nil=>cases hr
   | cons d r=>
    have hlen:((⟨(48::d::r).toArray⟩:ByteArray).size:Int)=r.length+2:=(by show((r.length+1+1:Nat):Int)=_;omega);have h1:(1:Int) < r.length+2:=(by omega);have h0:¬ ((r.length:Int)+2=0):=(by omega);go_enter func135,ntmps135
    go_wp2_with fail;all_goals
     go_ret2
     exact⟨by rw[HV.out]<;>rfl,Below.refl _ _⟩
 | false=>
  rw[hz,if_neg (by decide)]at hV;have HV:=Qh hV;clear hV;have hne:s≠[]:=fun e=>by subst e;cases hz
  have hpos:0 < s.length:=List.length_pos_iff.2 hne;obtain⟨c0,r0,hs0⟩:=List.exists_cons_of_ne_nil hne;have hz0:¬ (c0=48∧1 < s.length):=fun h=>by
   rw[hs0]at hz h;unfold numZ at hz;cases r0 with
   | nil=>simp at h
   | cons d r=>rw[h.1]at hz;cases hz
  have hget:((⟨s.toArray⟩:ByteArray)[0]'(by show 0 < s.length;exact hpos))=c0:=by
   subst hs0;rfl
  have hl0:((s.length:Int) == 0)=false:=(by rw[beq_eq_false_iff_ne];omega);have HZ:=Qh hz0;clear hz hz0 hs0 hne;by_cases h48:c0=48;rotate_left;have e48:((c0.toNat:Int) == 48)=false:=by
   rw[beq_eq_false_iff_ne];intro e;exact h48 (UInt8.toNat_inj.1 (show c0.toNat=(48:UInt8).toNat by show c0.toNat=48;omega))
  clear h48;rotate_left;have hl1:¬ ((1:Int) < s.length):=by
   have:=HZ.out;intro h;exact this ⟨h48,by omega⟩
  subst h48;all_goals
   go_enter func135,ntmps135
   go_wp2_with fail;clear hget hl0 HZ;go_loopw [4,5,6] (fun n i d wr=>∃ (k m:Nat),i=.int .i64 (k:Nat)∧k≤s.length∧n=.int .u64 (m:Nat)∧m < 18446744073709551616∧V=numG m (s.drop k)∧wr=w) (fun _ i _ _=>s.length - (intOf i).toNat)
   case atStart=>exact⟨0,0,rfl,Nat.zero_le _,rfl,by decide,HV.out,rfl⟩
   case round=>
    obtain⟨k,m,rfl,hk,rfl,hm,hVk,rfl⟩:=hrel;clear HV;by_cases hlt:(k:Int) < s.length
    ·have hlt':k < s.length:=(by omega);have hgk:((⟨s.toArray⟩:ByteArray)[k]'(by show k < s.length;exact hlt'))=s[k]:=rfl;rw[List.drop_eq_getElem_cons hlt']at hVk;unfold numG at hVk;generalize s[k]=c at *;cases hd:isDg c with
     | false=>
      rw[hd,if_neg (by decide)]at hVk;have HV:=Qh hVk;have hnd:¬ (48≤c.toNat∧c.toNat≤57):=fun h=>by rw[(isDg_iff c).2 h]at hd;cases hd
      clear hVk hd;by_cases h1:(c.toNat:Int) < 48
      ·go_wp2_with fail;go_ret2
       exact⟨by rw[HV.out]<;>rfl,Below.refl _ _⟩
      ·have h2:(57:Int) < c.toNat:=(by omega);clear hnd;go_wp2_with fail;go_ret2
       exact⟨by rw[HV.out]<;>rfl,Below.refl _ _⟩
     | true=>
      rw[hd,if_pos rfl]at hVk;obtain⟨hc1,hc2⟩:=(isDg_iff c).1 hd;have h1:¬ ((c.toNat:Int) < 48):=(by omega);have h2:¬ ((57:Int) < c.toNat):=(by omega);obtain⟨d,hdd⟩:∃ d,d=c.toNat - 48:=⟨_,rfl⟩
      have hd9:d≤9:=(by omega);have hw8:IntKind.u8.wrap ((c.toNat:Int) - 48)=(d:Int):=(by unfold IntKind.wrap;simp[IntKind.bits,IntKind.signed];omega);rw[← hdd]at hVk;have HV:=Qh hVk;clear hVk hd hc1 hc2 hdd;by_cases hq:((18446744073709551615 - (d:Int)) / 10 < (m:Int))
      ·have HV2:=Qh (show V=(0,false)by rw[HV.out,if_pos (by omega)]);go_wp2_with fail;go_ret2
       exact⟨by rw[HV2.out]<;>rfl,Below.refl _ _⟩
      ·have HV2:=Qh (show V=numG (10*m+d) (s.drop (k+1))by rw[HV.out,if_neg (by omega)]);have ho1:10*m < 18446744073709551616:=(by omega);have ho2:10*m+d < 18446744073709551616:=(by omega);go_wp2_with fail;go_roundw;case rel=>exact⟨k+1,10*m+d,by go_num,by omega,by go_num,ho2,HV2.out,trivial⟩
       case measure=>simp[intOf];omega
    ·obtain rfl:k=s.length:=by omega
     rw[List.drop_length]at hVk;have HV:=Qh hVk;clear hVk;go_wp2_with fail;go_ret2
     exact⟨by rw[HV.out]<;>rfl,Below.refl _ _⟩
theorem ext_one (c:UInt8) (r:List UInt8):(⟨(c::r).toArray⟩:ByteArray).extract 1 (r.length+1)=⟨r.toArray⟩:=ext_from (c::r) 1 (by simp)
set_option maxRecDepth 100000 in theorem red_signed (s : List UInt8) (hs : s.length ≤ 1048576) (w : World) :
  Calls prog 139 #[.string ⟨s.toArray⟩] w fun e w'=>∃ z:Int,e=.returned (.tuple #[.int .i64 z,.bool (sgnQ s).isSome])∧(∀ v,sgnQ s=some v→z=v)∧Below w.heap.size w w':=by
 obtain⟨V,hV⟩:∃ V,V=sgnQ s:=⟨_,rfl⟩
 rw[← hV];unfold sgnQ at hV;cases s with
 | nil=>
  have cq:=red_number [] (by decide) w;have hq:numQ []=(0,false):=rfl;rw[hq]at cq;have HV:=Qh hV;clear hV;go_enter func139,ntmps139
  go_wp2_with fail;(with_reducible refine cq.mono ?_);rintro e w1 ⟨rfl,hb⟩;have HB:=Qh hb;clear cq hb;go_wp2_with fail;go_ret2
  rw[HV.out];exact⟨_,rfl,(fun v hv=>by cases hv),HB.out⟩
 | cons c r=>
  simp only at hV;have hget:((⟨(c::r).toArray⟩:ByteArray)[0]'(by show 0 < (c::r).length;simp))=c:=rfl;have hl0:(0:Int) < ((c::r).length:Nat):=(by simp);have hex:=ext_one c r;have hrl:r.length≤1048576:=(by simp at hs;omega);by_cases hc:c=45
  ·subst hc;rw[if_pos rfl]at hV;have cq:=red_number r hrl w;generalize numQ r=q at *;obtain⟨n,b⟩:=q;simp only at hV cq;have hcb:((45:UInt8).toNat:Int)=45:=rfl;cases b with
   | false=>
    have HV:=Qh (show V=none by rw[hV,if_neg (fun h=>by cases h.1)]);clear hV hs;go_enter func139,ntmps139
    go_wp2_with fail;(with_reducible refine cq.mono ?_);rintro e w1 ⟨rfl,hb⟩;have HB:=Qh hb;clear cq hb;go_wp2_with fail;go_ret2
    rw[HV.out];exact⟨_,rfl,(fun v hv=>by first|(cases hv;done)|(cases hv;first|(simp;done)|(simp[wrap64];done)|(unfold wrap64;decide)|kernel_rfl)),HB.out⟩
   | true=>
    by_cases h0:0 < n
    ·by_cases h63:n≤9223372036854775808
     ·have HV:=Qh (show V=some (-(n:Int))by rw[hV,if_pos ⟨rfl,h0,h63⟩]);clear hV hs;by_cases h64:n=9223372036854775808
      ·subst h64;go_enter func139,ntmps139
       go_wp2_with fail;(with_reducible refine cq.mono ?_);rintro e w1 ⟨rfl,hb⟩;have HB:=Qh hb;clear cq hb;go_wp2_with fail;go_ret2
       rw[HV.out];exact⟨_,rfl,(fun v hv=>by first|(cases hv;done)|(cases hv;first|(simp;done)|(simp[wrap64];done)|(unfold wrap64;decide)|kernel_rfl)),HB.out⟩
      ·have h0i:(0:Int) < n:=(by omega);have h63i:(n:Int)≤9223372036854775808:=(by omega);have h62i:(n:Int) < 9223372036854775808:=(by omega);go_enter func139,ntmps139
       go_wp2_with fail;(with_reducible refine cq.mono ?_);rintro e w1 ⟨rfl,hb⟩;have HB:=Qh hb;clear cq hb;go_wp2_with fail;go_ret2
       rw[HV.out];exact⟨_,rfl,(fun v hv=>by first|(cases hv;done)|(cases hv;first|(simp;done)|(simp[wrap64];done)|(unfold wrap64;decide)|kernel_rfl)),HB.out⟩
     ·have HV:=Qh (show V=none by rw[hV,if_neg (fun h=>h63 h.2.2)]);have h0i:(0:Int) < n:=(by omega);have h63i:decide ((n:Int)≤9223372036854775808)=false:=decide_eq_false (by omega);clear hV hs;go_enter func139,ntmps139
      go_wp2_with fail;(with_reducible refine cq.mono ?_);rintro e w1 ⟨rfl,hb⟩;have HB:=Qh hb;clear cq hb;go_wp2_with fail;go_ret2
      rw[HV.out];exact⟨_,rfl,(fun v hv=>by first|(cases hv;done)|(cases hv;first|(simp;done)|(simp[wrap64];done)|(unfold wrap64;decide)|kernel_rfl)),HB.out⟩
    ·have HV:=Qh (show V=none by rw[hV,if_neg (fun h=>h0 h.2.1)]);have h0i:¬ (0:Int) < n:=(by omega);clear hV hs;go_enter func139,ntmps139
     go_wp2_with fail;(with_reducible refine cq.mono ?_);rintro e w1 ⟨rfl,hb⟩;have HB:=Qh hb;clear cq hb;go_wp2_with fail;go_ret2
     rw[HV.out];exact⟨_,rfl,(fun v hv=>by first|(cases hv;done)|(cases hv;first|(simp;done)|(simp[wrap64];done)|(unfold wrap64;decide)|kernel_rfl)),HB.out⟩
  ·rw[if_neg hc]at hV;have cq:=red_number (c::r) hs w;generalize numQ (c::r)=q at *;obtain⟨n,b⟩:=q;simp only at hV cq;have ec:((c.toNat:Int) == 45)=false:=by
    rw[beq_eq_false_iff_ne];intro e;exact hc (UInt8.toNat_inj.1 (show c.toNat=(45:UInt8).toNat by show c.toNat=45;omega))
   cases b with
   | false=>
    have HV:=Qh (show V=none by rw[hV,if_neg (fun h=>by cases h.1)]);clear hV hs hex;go_enter func139,ntmps139
    go_wp2_with fail;(with_reducible refine cq.mono ?_);rintro e w1 ⟨rfl,hb⟩;have HB:=Qh hb;clear cq hb;go_wp2_with fail;go_ret2
    rw[HV.out];exact⟨_,rfl,(fun v hv=>by first|(cases hv;done)|(cases hv;first|(simp;done)|(simp[wrap64];done)|(unfold wrap64;decide)|kernel_rfl)),HB.out⟩
   | true=>
    by_cases h63:n < 9223372036854775808
    ·have HV:=Qh (show V=some (n:Int)by rw[hV,if_pos ⟨rfl,h63⟩]);have h63i:(n:Int) < 9223372036854775808:=(by omega);clear hV hs hex;go_enter func139,ntmps139
     go_wp2_with fail;(with_reducible refine cq.mono ?_);rintro e w1 ⟨rfl,hb⟩;have HB:=Qh hb;clear cq hb;go_wp2_with fail;go_ret2
     rw[HV.out];exact⟨_,rfl,(fun v hv=>by first|(cases hv;done)|(cases hv;first|(simp;done)|(simp[wrap64];done)|(unfold wrap64;decide)|kernel_rfl)),HB.out⟩
    ·have HV:=Qh (show V=none by rw[hV,if_neg (fun h=>h63 h.2)]);have h63i:decide ((n:Int) < 9223372036854775808)=false:=decide_eq_false (by omega);clear hV hs hex;go_enter func139,ntmps139
     go_wp2_with fail;(with_reducible refine cq.mono ?_);rintro e w1 ⟨rfl,hb⟩;have HB:=Qh hb;clear cq hb;go_wp2_with fail;go_ret2
     rw[HV.out];exact⟨_,rfl,(fun v hv=>by first|(cases hv;done)|(cases hv;first|(simp;done)|(simp[wrap64];done)|(unfold wrap64;decide)|kernel_rfl)),HB.out⟩
set_option maxRecDepth 100000 in theorem red_name (T : List TokD) (hT : TsW T) (st : RSt) (kr : Nat) (w : World) (h : RAt w kr T st) :
  Calls prog 28 #[.pointer (some ⟨kr,0,none⟩)] w fun e w'=>RPst kr w T (.string ⟨(st.run [] nameR).1.toArray⟩) (st.run [] nameR).2 e w':=by
 have hpos:=hT.b.1.pos;have hlen:=hT.b.2.2;have cd:=red_named T hT st kr w h;have cf:=fun W hW=>red_form T hT st kr W hW
 have cw:=fun W hW=>red_wrong 11 (by decide) T hT st kr W hW
 obtain⟨R,hR⟩:∃ R,R=st.run [] nameR:=⟨_,rfl⟩
 rw[← hR];have HR:=Qh h;have hf1:=tk_f1;cases hN:st.named with
 | false=>
  have HV:=Qh (show R=([],st.form)by
   rw[hR];cases st with
   | bad n l c=>rfl
   | ok ts=>
    unfold RSt.run nameR;simp only;rw[if_neg (by rw[show namedB ts=false from hN];decide)];rfl)
  rw[hN]at cd;clear hR hN h;go_enter func28,ntmps28
  go_wp2_with fail;(with_reducible refine cd.mono ?_);rintro e w1 ⟨rfl,hb⟩;have cF:=cf w1 (HR.out.keep hb);have HO:=Qh (Only.of_below kr hb);clear cd cf cw hb;go_wp2_with fail;(with_reducible refine cF.mono ?_);rintro e w2 ⟨rfl,ho,hq⟩;have HO2:=Qh (HO.out.trans ho);have HQ:=Qh hq;clear cF ho hq;go_wp2_with fail;go_ret;rw[HV.out];exact⟨rfl,HO2.out,HQ.out⟩
 | true=>
  cases st with
  | bad n l c=>cases hN
  | ok ts=>
   obtain⟨i,hi,rfl,hr⟩:=h;have hN':namedB (T.drop i)=true:=hN;have HK:=Qh (named_kind hN');have cn:=fun W hW=>red_now T hpos hlen i 0 0 0 kr W (Nat.le_of_lt hi) hW
   rw[hdT_ok hi]at cn;unfold tkV enTok at cn;rw[hN]at cd;have hb64:R=if (headT (T.drop i)).text.length≤64 then ((headT (T.drop i)).text,.ok (T.drop i).tail) else ([],(RSt.ok (T.drop i)).wrong 11):=by
    rw[hR];unfold RSt.run nameR;simp only;rw[if_pos hN'];by_cases h64:(headT (T.drop i)).text.length≤64
    ·rw[if_pos h64,if_pos h64]
    ·rw[if_neg h64,if_neg h64];rfl
   have HBV:=Qh hb64;have HRI:=Qh hr;have hst:∀ W,RAtI W kr T i 0 0 0→RAt (W.setCell ⟨kr,1,none⟩ (.int .i64 ((i:Int)+1))) kr T (.ok (T.drop i).tail):=fun W hW=>hW.step hT hi (by rw[HK.out];decide)
   have HST:=Qh hst;clear hR hN hN' hr hb64 hst;generalize (headT (T.drop i)).text=X at *;go_enter func28,ntmps28
   go_wp2_with fail;(with_reducible refine cd.mono ?_);rintro e w1 ⟨rfl,hb⟩;have HO:=Qh (Only.of_below kr hb);have HR1:=Qh (HRI.out.keep hb);have cN:=cn w1 HR1.out;clear cd cf hb cn;go_wp2_with fail;(with_reducible refine cN.mono ?_);rintro e w2 ⟨rfl,hb⟩;have HO2:=Qh (HO.out.trans (Only.of_below kr hb));have HR2:=Qh (HR1.out.keep hb);clear cN hb;by_cases h64:X.length≤64
   ·have HV:=Qh (show R=(X,.ok (T.drop i).tail)by rw[HBV.out,if_pos h64]);have h64i:¬ ((64:Int) < X.length):=(by omega);obtain⟨v,hc⟩:=HR2.out.cells;have f1:=hc.cell 1 (.int .i64 (i:Nat)) rfl;have r1:=hc.free 1;have HN:=Qh (HST.out _ HR2.out);clear hc cw h64;go_wp2_with fail;go_ret;rw[HV.out];exact⟨rfl,HO2.out.set 1 _,HN.out⟩
   ·have HV:=Qh (show R=([],(RSt.ok (T.drop i)).wrong 11)by rw[HBV.out,if_neg h64]);have h64i:(64:Int) < X.length:=(by omega);have cW:=cw w2 (HR2.out.of_ok hi);clear cw h64;go_wp2_with fail;(with_reducible refine cW.mono ?_);rintro e w3 ⟨rfl,ho,hq⟩;have HO3:=Qh (HO2.out.trans ho);have HQ:=Qh hq;clear cW ho hq;go_wp2_with fail;go_ret;rw[HV.out];exact⟨rfl,HO3.out,HQ.out⟩
set_option maxRecDepth 100000 in theorem red_text (T : List TokD) (hT : TsW T) (st : RSt) (kr : Nat) (w : World) (h : RAt w kr T st) :
  Calls prog 25 #[.pointer (some ⟨kr,0,none⟩)] w fun e w'=>RPst kr w T (.string ⟨(st.run tok0 (nextR 3)).1.text.toArray⟩) (st.run tok0 (nextR 3)).2 e w':=by
 have hpos:=hT.b.1.pos;have hlen:=hT.b.2.2;have cf:=fun W hW=>red_form T hT st kr W hW
 obtain⟨R,hR⟩:∃ R,R=st.run tok0 (nextR 3):=⟨_,rfl⟩
 rw[← hR];have HR:=Qh h;have hf0:=tk_f0;have hf1:=tk_f1;cases st with
 | bad no l c=>
  have HV:=Qh (show R=(tok0,.bad no l c)from hR);obtain⟨h0,i,hi,hr⟩:=h;obtain⟨v,hc⟩:=hr.cells;have f2:=hc.cell 2 (.int .i64 no) rfl;have e0:=bN h0;have cF:=cf w HR.out;clear hR hr hc cf;go_enter func25,ntmps25
  go_wp2_with fail;(with_reducible refine cF.mono ?_);rintro e w2 ⟨rfl,ho,hq⟩;have HO2:=Qh ho;have HQ:=Qh hq;clear cF ho hq;go_wp2_with fail;go_ret;rw[HV.out];exact⟨rfl,HO2.out,HQ.out⟩
 | ok ts=>
  obtain⟨i,hi,rfl,hr⟩:=h;obtain⟨v,hc⟩:=hr.cells;have f2:=hc.cell 2 (.int .i64 0) rfl;have cn:=fun W hW=>red_now T hpos hlen i 0 0 0 kr W (Nat.le_of_lt hi) hW
  rw[hdT_ok hi]at cn;unfold tkV enTok at cn;have HRI:=Qh hr;have cN:=cn w hr;clear hr hc;by_cases hk:(headT (T.drop i)).kind=3
  ·have HV:=Qh (show R=(headT (T.drop i),.ok (T.drop i).tail)by
    rw[hR];unfold RSt.run nextR;simp only;rw[if_pos ⟨hk,by decide⟩])
   have HST:=Qh (fun W (hW:RAtI W kr T i 0 0 0)=>hW.step hT hi (by rw[hk];decide));clear hR;rw[hk]at cN;go_enter func25,ntmps25
   go_wp2_with fail;(with_reducible refine cN.mono ?_);rintro e w1 ⟨rfl,hb⟩;have HO:=Qh (Only.of_below kr hb);have HR1:=Qh (HRI.out.keep hb);have cN1:=cn w1 HR1.out;clear cN hb cn f2 cf;go_wp2_with fail;(with_reducible refine cN1.mono ?_);rintro e w2 ⟨rfl,hb⟩;have HO2:=Qh (HO.out.trans (Only.of_below kr hb));have HR2:=Qh (HR1.out.keep hb);obtain⟨v2,hc⟩:=HR2.out.cells;have f1:=hc.cell 1 (.int .i64 (i:Nat)) rfl;have r1:=hc.free 1;have HN:=Qh (HST.out _ HR2.out);clear hc hb cN1 hk;go_wp2_with fail;go_ret;rw[HV.out];exact⟨rfl,HO2.out.set 1 _,HN.out⟩
  ·have HV:=Qh (show R=(tok0,(RSt.ok (T.drop i)).form)by
    rw[hR];unfold RSt.run nextR;simp only;rw[if_neg (fun h=>hk h.1)];rfl)
   have e0:=bN hk;clear hR cn;generalize (headT (T.drop i)).kind=K at *;go_enter func25,ntmps25
   go_wp2_with fail;(with_reducible refine cN.mono ?_);rintro e w1 ⟨rfl,hb⟩;have HO:=Qh (Only.of_below kr hb);have cF:=cf w1 (HR.out.keep hb);clear cN hb cf f2;go_wp2_with fail;(with_reducible refine cF.mono ?_);rintro e w2 ⟨rfl,ho,hq⟩;have HO2:=Qh (HO.out.trans ho);have HQ:=Qh hq;clear cF ho hq;go_wp2_with fail;go_ret;rw[HV.out];exact⟨rfl,HO2.out,HQ.out⟩
set_option maxRecDepth 100000 in theorem red_whole (below : Nat) (hbl : below < 18446744073709551616) (T : List TokD) (hT : TsW T) (st : RSt) (kr : Nat) (w : World) (h : RAt w kr T st) :
  Calls prog 84 #[.pointer (some ⟨kr,0,none⟩),.int .u64 below] w fun e w'=>RPst kr w T (.int .u64 ((st.run 0 (wholeR below)).1:Nat)) (st.run 0 (wholeR below)).2 e w':=by
 have hpos:=hT.b.1.pos;have hlen:=hT.b.2.2;have cf:=fun W hW=>red_form T hT st kr W hW
 obtain⟨R,hR⟩:∃ R,R=st.run 0 (wholeR below):=⟨_,rfl⟩
 rw[← hR];have HR:=Qh h;have hf0:=tk_f0;have hf1:=tk_f1;have cw:=fun W hW=>red_wrong 8 (by decide) T hT st kr W hW
 cases st with
 | bad no l c=>
  have HV:=Qh (show R=(0,.bad no l c)from hR);obtain⟨h0,i,hi,hr⟩:=h;obtain⟨v,hc⟩:=hr.cells;have f2:=hc.cell 2 (.int .i64 no) rfl;have e0:=bN h0;have cF:=cf w HR.out;clear hR hr hc cf;go_enter func84,ntmps84
  go_wp2_with fail;(with_reducible refine cF.mono ?_);rintro e w2 ⟨rfl,ho,hq⟩;have HO2:=Qh ho;have HQ:=Qh hq;clear cF ho hq;go_wp2_with fail;go_ret;rw[HV.out];exact⟨rfl,HO2.out,HQ.out⟩
 | ok ts=>
  obtain⟨i,hi,rfl,hr⟩:=h;obtain⟨v,hc⟩:=hr.cells;have f2:=hc.cell 2 (.int .i64 0) rfl;have cn:=fun W hW=>red_now T hpos hlen i 0 0 0 kr W (Nat.le_of_lt hi) hW
  rw[hdT_ok hi]at cn;unfold tkV enTok at cn;have HRI:=Qh hr;have cN:=cn w hr;have hX20:=(hT.b.drop hi).head;clear hr hc;by_cases hk:(headT (T.drop i)).kind=2;case neg=>
   have HV:=Qh (show R=(0,(RSt.ok (T.drop i)).form)by
    rw[hR];unfold RSt.run wholeR;simp only;rw[if_neg hk];rfl)
   have e0:=bN hk;clear hR cn;generalize (headT (T.drop i)).kind=K at *;go_enter func84,ntmps84
   go_wp2_with fail;(with_reducible refine cN.mono ?_);rintro e w1 ⟨rfl,hb⟩;have HO:=Qh (Only.of_below kr hb);have cF:=cf w1 (HR.out.keep hb);clear cN hb cf f2;go_wp2_with fail;(with_reducible refine cF.mono ?_);rintro e w2 ⟨rfl,ho,hq⟩;have HO2:=Qh (HO.out.trans ho);have HQ:=Qh hq;clear cF ho hq;go_wp2_with fail;go_ret;rw[HV.out];exact⟨rfl,HO2.out,HQ.out⟩
  case pos=>
   have HNQ:=Qh (numQ_eq (headT (T.drop i)).text);have hRv:R=if (numP (headT (T.drop i)).text).2=true∧(numP (headT (T.drop i)).text).1 < below then ((numP (headT (T.drop i)).text).1,.ok (T.drop i).tail) else (0,(RSt.ok (T.drop i)).wrong 8):=by
    rw[hR];unfold RSt.run wholeR;simp only;rw[if_pos hk];by_cases hc:(numP (headT (T.drop i)).text).2=true∧(numP (headT (T.drop i)).text).1 < below
    ·rw[if_pos hc,if_pos hc]
    ·rw[if_neg hc,if_neg hc];rfl
   have HRV:=Qh hRv;have HST:=Qh (fun W (hW:RAtI W kr T i 0 0 0)=>hW.step hT hi (by rw[hk];decide));have cq:=fun W=>red_number (headT (T.drop i)).text hX20 W
   clear hR hRv hX20;rw[hk]at cN;generalize (headT (T.drop i)).text=X at *;go_enter func84,ntmps84
   go_wp2_with fail;(with_reducible refine cN.mono ?_);rintro e w1 ⟨rfl,hb⟩;have HO:=Qh (Only.of_below kr hb);have HR1:=Qh (HRI.out.keep hb);have cN1:=cn w1 HR1.out;clear cN hb cn f2 cf;go_wp2_with fail;(with_reducible refine cN1.mono ?_);rintro e w2 ⟨rfl,hb⟩;have HO2:=Qh (HO.out.trans (Only.of_below kr hb));have HR2:=Qh (HR1.out.keep hb);clear hb cN1 hk;go_wp2_with fail;with_reducible refine(cq w2).mono ?_
   rintro e w3 ⟨rfl,hb⟩;have HO3:=Qh (HO2.out.trans (Only.of_below kr hb));have HR3:=Qh (HR2.out.keep hb);have HST3:=Qh (HST.out _ HR3.out);obtain⟨v3,hc⟩:=HR3.out.cells;have f1:=hc.cell 1 (.int .i64 (i:Nat)) rfl;have r1:=hc.free 1;have cW:=cw w3 (HR3.out.of_ok hi);clear cq hb hc cw;generalize numP X=p at *;obtain⟨n,b⟩:=p;cases b with
   | false=>
    have hq:numQ X=(0,false):=HNQ.out;rw[hq];have HV:=Qh (show R=(0,(RSt.ok (T.drop i)).wrong 8)by rw[HRV.out,if_neg (fun h=>by cases h.1)]);clear hq f1 r1;go_wp2_with fail;(with_reducible refine cW.mono ?_);rintro e w4 ⟨rfl,ho,hq⟩;have HO4:=Qh (HO3.out.trans ho);have HQ:=Qh hq;clear cW ho hq;go_wp2_with fail;go_ret;rw[HV.out];exact⟨rfl,HO4.out,HQ.out⟩
   | true=>
    have hq:numQ X=(n,true):=HNQ.out;rw[hq];by_cases hlt:n < below
    ·have HV:=Qh (show R=(n,.ok (T.drop i).tail)by rw[HRV.out,if_pos ⟨rfl,hlt⟩]);have hli:¬ ((below:Int)≤n):=(by omega);have hlb:decide ((below:Int)≤(n:Int))=false:=decide_eq_false hli;clear hq cW;go_wp2_with fail;go_ret;rw[HV.out];exact⟨rfl,HO3.out.set 1 _,HST3.out⟩
    ·have HV:=Qh (show R=(0,(RSt.ok (T.drop i)).wrong 8)by rw[HRV.out,if_neg (fun h=>hlt h.2)]);have hli:(below:Int)≤n:=(by omega);have hlb:decide ((below:Int)≤(n:Int))=true:=decide_eq_true hli;clear hq f1 r1;go_wp2_with fail;(with_reducible refine cW.mono ?_);rintro e w4 ⟨rfl,ho,hq⟩;have HO4:=Qh (HO3.out.trans ho);have HQ:=Qh hq;clear cW ho hq;go_wp2_with fail;go_ret;rw[HV.out];exact⟨rfl,HO4.out,HQ.out⟩
theorem run_id (st:RSt):st.run (0,false) idR=(((st.run 0 (wholeR 4294967296)).1 % 2147483648,decide (2147483648≤(st.run 0 (wholeR 4294967296)).1)),(st.run 0 (wholeR 4294967296)).2)∧(st.run 0 (wholeR 4294967296)).1 < 4294967296:=by
 cases st with
 | bad n l c=>exact⟨rfl,by show(0:Nat) < 4294967296;decide⟩
 | ok ts=>
  cases hw:wholeR 4294967296 ts with
  | ok n t=>
   have e1:(RSt.ok ts).run 0 (wholeR 4294967296)=(n,.ok t):=by
    unfold RSt.run;simp only;rw[hw]
   have e2:(RSt.ok ts).run (0,false) idR=((n % 2147483648,decide (2147483648≤n)),.ok t):=by
    unfold RSt.run idR;simp only;rw[hw]
   rw[e1,e2];exact⟨rfl,whole_lt hw⟩
  | bad n l c=>
   have e1:(RSt.ok ts).run 0 (wholeR 4294967296)=(0,.bad n l c):=by
    unfold RSt.run;simp only;rw[hw]
   have e2:(RSt.ok ts).run (0,false) idR=((0,false),.bad n l c):=by
    unfold RSt.run idR;simp only;rw[hw]
   rw[e1,e2];exact⟨rfl,by show(0:Nat) < 4294967296;decide⟩
theorem andNot31 (n:Nat) (h:n < 4294967296):bits .andNot .u32 (n:Int) 2147483648=((n % 2147483648:Nat):Int):=by
 have h1:=u32_andNot_nat n 2147483648 h (by decide);rw[show((2147483648:Nat):Int)=2147483648 from rfl]at h1;rw[h1,show n &&& (4294967295 - 2147483648)=n % 2147483648 from Nat.and_two_pow_sub_one_eq_mod n 31]
set_option maxRecDepth 100000 in theorem red_id (T : List TokD) (hT : TsW T) (st : RSt) (kr : Nat) (w : World) (h : RAt w kr T st) :
  Calls prog 83 #[.pointer (some ⟨kr,0,none⟩)] w fun e w'=>RPst kr w T (.tuple #[.int .u32 ((st.run (0,false) idR).1.1:Nat),.bool (st.run (0,false) idR).1.2]) (st.run (0,false) idR).2 e w':=by
 have c:=red_whole 4294967296 (by decide) T hT st kr w h;rw[show((4294967296:Nat):Int)=4294967296 from rfl]at c;obtain⟨hrun,hlt⟩:=run_id st;rw[hrun];generalize st.run 0 (wholeR 4294967296)=q at *;obtain⟨n,st'⟩:=q;simp only at *;have hbits:=andNot31 n hlt;have hcv:IntKind.u32.wrap (n:Int)=(n:Int):=(by unfold IntKind.wrap;simp[IntKind.bits,IntKind.signed];omega);have HD:decide ((2147483648:Int)≤(n:Int))=decide (2147483648≤n):=by
  by_cases h:2147483648≤n
  ·rw[decide_eq_true h,decide_eq_true (by omega)]
  ·rw[decide_eq_false h,decide_eq_false (by omega)]
 generalize decide (2147483648≤n)=D at *;generalize n % 2147483648=m at *;clear hrun h;go_enter func83,ntmps83
 go_wp2_with fail;(with_reducible refine c.mono ?_);rintro e w1 ⟨rfl,ho,hq⟩;have HO:=Qh ho;have HQ:=Qh hq;clear c ho hq;go_wp2_with fail;go_ret2
 exact⟨rfl,HO.out,HQ.out⟩
def brQ (s:List UInt8):Nat×Bool:=match s with
 | []=>(0,false)
 | c::r=>if c=109 then numQ r else (0,false)
set_option maxRecDepth 100000 in theorem red_branch (s : List UInt8) (hs : s.length ≤ 1048576) (w : World) :
  Calls prog 157 #[.string ⟨s.toArray⟩] w fun e w'=>e=.returned (.tuple #[.int .u64 ((brQ s).1:Nat),.bool (brQ s).2])∧Below w.heap.size w w':=by
 obtain⟨V,hV⟩:∃ V,V=brQ s:=⟨_,rfl⟩
 rw[← hV];unfold brQ at hV;cases s with
 | nil=>
  have HV:=Qh hV;clear hV;go_enter func157,ntmps157
  go_wp2_with fail;go_ret2
  exact⟨by rw[HV.out]<;>rfl,Below.refl _ _⟩
 | cons c r=>
  simp only at hV;have hget:((⟨(c::r).toArray⟩:ByteArray)[0]'(by show 0 < (c::r).length;simp))=c:=rfl;cases r with
  | nil=>
   have HV:=Qh (show V=(0,false)by
    rw[hV];split
    ·rfl
    ·rfl)
   clear hV;go_enter func157,ntmps157
   go_wp2_with fail;go_ret2
   exact⟨by rw[HV.out]<;>rfl,Below.refl _ _⟩
  | cons d r=>
   have hex:(⟨(c::d::r).toArray⟩:ByteArray).extract 1 (r.length+1+1)=⟨(d::r).toArray⟩:=ext_one c (d::r);have hl2:¬ (((c::d::r).length:Int) < 2):=(by simp only[List.length_cons];omega);have hl3:¬ ((r.length:Int)+1+1 < 2):=(by omega);by_cases hc:c=109
   ·subst hc;rw[if_pos rfl]at hV;have cq:=red_number (d::r) (by simp only[List.length_cons]at hs ⊢;omega) w;rw[← hV]at cq;have hcb:((109:UInt8).toNat:Int)=109:=rfl;have HV:=Qh hV;obtain⟨x,y⟩:=V;clear hV;go_enter func157,ntmps157
    go_wp2_with fail;(with_reducible refine cq.mono ?_);rintro e w1 ⟨rfl,hb⟩;have HB:=Qh hb;clear cq hb;go_wp2_with fail;go_ret2
    exact⟨rfl,HB.out⟩
   ·rw[if_neg hc]at hV;have HV:=Qh hV;have ec:((c.toNat:Int) == 109)=false:=by
     rw[beq_eq_false_iff_ne];intro e;exact hc (UInt8.toNat_inj.1 (show c.toNat=(109:UInt8).toNat by show c.toNat=109;omega))
    clear hV hex;go_enter func157,ntmps157
    go_wp2_with fail;go_ret2
    exact⟨by rw[HV.out]<;>rfl,Below.refl _ _⟩
theorem brQ_eq (s:List UInt8):brQ s=if Lib.hasPrefix s [109]=true∧(numP (Lib.trimPrefix s [109])).2=true then ((numP (Lib.trimPrefix s [109])).1,true) else (0,false):=by
 cases s with
 | nil=>rfl
 | cons c r=>
  unfold brQ;simp only;by_cases hc:c=109
  ·subst hc;have h1:Lib.hasPrefix (109::r) [109]=true:=(by unfold Lib.hasPrefix;simp[List.isPrefixOf]);have h2:Lib.trimPrefix (109::r) [109]=r:=(by unfold Lib.trimPrefix;rw[if_pos h1];rfl);rw[if_pos rfl,h1,h2,numQ_eq];generalize numP r=q;obtain⟨n,b⟩:=q;cases b<;>simp
  ·have h1:Lib.hasPrefix (c::r) [109]=false:=by
    unfold Lib.hasPrefix;simp only[List.isPrefixOf,Bool.and_true];exact bN (Ne.symm hc)
   rw[if_neg hc,h1,if_neg (fun h=>by cases h.1)]
set_option maxRecDepth 100000 in theorem red_role (T : List TokD) (hT : TsW T) (st : RSt) (kr : Nat) (w : World) (h : RAt w kr T st) :
  Calls prog 136 #[.pointer (some ⟨kr,0,none⟩)] w fun e w'=>RPst kr w T (.tuple #[.int .i64 (st.run (0,0) roleR).1.1,.int .u64 ((st.run (0,0) roleR).1.2:Nat)]) (st.run (0,0) roleR).2 e w':=by
 have hpos:=hT.b.1.pos;have hlen:=hT.b.2.2;have cf:=fun W hW=>red_form T hT st kr W hW
 obtain⟨R,hR⟩:∃ R,R=st.run (0,0) roleR:=⟨_,rfl⟩
 rw[← hR];have HR:=Qh h;have hf0:=tk_f0;have hf1:=tk_f1;cases st with
 | bad no l c=>
  have HV:=Qh (show R=((0,0),.bad no l c)from hR);obtain⟨h0,i,hi,hr⟩:=h;obtain⟨v,hc⟩:=hr.cells;have f2:=hc.cell 2 (.int .i64 no) rfl;have e0:=bN h0;clear hR hr hc;go_enter func136,ntmps136
  go_wp2_with fail;have HO2:=Qh (Only.of_below kr (Below.refl w.heap.size w));have HQ:=HR;go_ret2
  rw[HV.out];exact⟨rfl,HO2.out,HQ.out⟩
 | ok ts=>
  obtain⟨i,hi,rfl,hr⟩:=h;obtain⟨v,hc⟩:=hr.cells;have f2:=hc.cell 2 (.int .i64 0) rfl;have cn:=fun W hW=>red_now T hpos hlen i 0 0 0 kr W (Nat.le_of_lt hi) hW
  rw[hdT_ok hi]at cn;unfold tkV enTok at cn;have HRI:=Qh hr;have cN:=cn w hr;have hX20:=(hT.b.drop hi).head;clear hr hc;by_cases hk:(headT (T.drop i)).kind=1;case neg=>
   have HV:=Qh (show R=((0,0),(RSt.ok (T.drop i)))by
    rw[hR];unfold RSt.run roleR;simp only;rw[if_neg hk];try rfl)
   have e0:=bN hk;clear hR cn;generalize (headT (T.drop i)).kind=K at *;go_enter func136,ntmps136
   go_wp2_with fail;(with_reducible refine cN.mono ?_);rintro e w1 ⟨rfl,hb⟩;have HO:=Qh (Only.of_below kr hb);have cF:=cf w1 (HR.out.keep hb);have HO2:=HO;have HQ:=Qh (HR.out.keep hb);clear cN hb cf f2 cF;go_wp2_with fail;go_ret2
   rw[HV.out];exact⟨rfl,HO2.out,HQ.out⟩
  case pos=>
   have HBQ:=Qh (brQ_eq (headT (T.drop i)).text);have hRv:R=if (headT (T.drop i)).text=[77] then ((1,0),.ok (T.drop i).tail) else if Lib.hasPrefix (headT (T.drop i)).text [109]=true∧(numP (Lib.trimPrefix (headT (T.drop i)).text [109])).2=true then ((2,(numP (Lib.trimPrefix (headT (T.drop i)).text [109])).1),.ok (T.drop i).tail) else ((0,0),(RSt.ok (T.drop i)).form):=by
    rw[hR];unfold RSt.run roleR;simp only;rw[if_pos hk];by_cases hc:(headT (T.drop i)).text=[77]
    ·rw[if_pos hc,if_pos hc]
    ·rw[if_neg hc,if_neg hc];by_cases hd:Lib.hasPrefix (headT (T.drop i)).text [109]=true∧(numP (Lib.trimPrefix (headT (T.drop i)).text [109])).2=true
     ·rw[if_pos hd,if_pos hd]
     ·rw[if_neg hd,if_neg hd];rfl
   have HRV:=Qh hRv;have HST:=Qh (fun W (hW:RAtI W kr T i 0 0 0)=>hW.step hT hi (by rw[hk];decide));have cq:=fun W=>red_branch (headT (T.drop i)).text hX20 W
   have HM:=Qh (ba_eq (headT (T.drop i)).text [77]);clear hR hRv hX20;rw[hk]at cN;generalize (headT (T.drop i)).text=X at *;go_enter func136,ntmps136
   go_wp2_with fail;(with_reducible refine cN.mono ?_);rintro e w1 ⟨rfl,hb⟩;have HO:=Qh (Only.of_below kr hb);have HR1:=Qh (HRI.out.keep hb);have cN1:=cn w1 HR1.out;clear cN hb cn f2;go_wp2_with fail;(with_reducible refine cN1.mono ?_);rintro e w2 ⟨rfl,hb⟩;have HO2:=Qh (HO.out.trans (Only.of_below kr hb));have HR2:=Qh (HR1.out.keep hb);clear hb cN1 hk;go_wp2_with fail;with_reducible refine(cq w2).mono ?_
   rintro e w3 ⟨rfl,hb⟩;have HO3:=Qh (HO2.out.trans (Only.of_below kr hb));have HR3:=Qh (HR2.out.keep hb);have HST3:=Qh (HST.out _ HR3.out);obtain⟨v3,hc⟩:=HR3.out.cells;have f1:=hc.cell 1 (.int .i64 (i:Nat)) rfl;have r1:=hc.free 1;have cF:=cf w3 (HR3.out.of_ok hi);clear cq hb hc cf;by_cases hm:X=[77]
   ·have HV:=Qh (show R=((1,0),.ok (T.drop i).tail)by rw[HRV.out,if_pos hm]);generalize brQ X=q at *;obtain⟨n,b⟩:=q;subst hm;clear cF;go_wp2_with fail;go_ret2
    rw[HV.out];exact⟨rfl,HO3.out.set 1 _,HST3.out⟩
   ·have em:=bN hm;have hmb:¬ (⟨X.toArray⟩:ByteArray)=⟨#[77]⟩:=fun e=>hm (HM.out.1 e)
    by_cases hp:Lib.hasPrefix X [109]=true∧(numP (Lib.trimPrefix X [109])).2=true
    ·have HV:=Qh (show R=((2,(numP (Lib.trimPrefix X [109])).1),.ok (T.drop i).tail)by rw[HRV.out,if_neg hm,if_pos hp]);have hq:brQ X=((numP (Lib.trimPrefix X [109])).1,true):=(by rw[HBQ.out,if_pos hp]);rw[hq];generalize (numP (Lib.trimPrefix X [109])).1=n at *;clear hq hp cF;go_wp2_with fail;go_ret2
     rw[HV.out];exact⟨rfl,HO3.out.set 1 _,HST3.out⟩
    ·have HV:=Qh (show R=((0,0),(RSt.ok (T.drop i)).form)by rw[HRV.out,if_neg hm,if_neg hp]);have hq:brQ X=(0,false):=(by rw[HBQ.out,if_neg hp]);rw[hq];clear hq hp f1 r1;go_wp2_with fail;(with_reducible refine cF.mono ?_);rintro e w4 ⟨rfl,ho,hq⟩;have HO4:=Qh (HO3.out.trans ho);have HQ:=Qh hq;clear cF ho hq;go_wp2_with fail;go_ret2
     rw[HV.out];exact⟨rfl,HO4.out,HQ.out⟩
end Go.Proofs.YtlacjhjckkablaaGreatDoor
