/-
  The reference's reader: numbers, roles, orders, fractions: contracts. (Printed by gen_rede.py.)
-/
import Derived.Test.YtfflljgnpfldfaaGreatDoorPrsQ
set_option linter.all false
set_option maxHeartbeats 128000000
set_option maxRecDepth 100000
namespace Go.Proofs.YtfflljgnpfldfaaGreatDoor
open Go.RowKit
def He:Nat→List UInt8→Nat×Bool
 | n,[]=>(n,true)
 | n,c::r=>if fq c=true then (if (18446744073709551615 - (c.toNat - 48)) / 10 < n then (0,false) else He (10*n+(c.toNat - 48)) r) else (0,false)
def Hd (s:List UInt8):Bool:=match s with
 | []=>true
 | c::r=>c == 48 && !r.isEmpty
def lj (s:List UInt8):Nat×Bool:=if Hd s then (0,false) else He 0 s
def okQ (r:Lib.NumEnd Nat):Nat×Bool:=match r with
 | .ok u=>(u,true)
 | _=>(0,false)
theorem acj (l:List UInt8):∀ (n:Nat),n < 18446744073709551616→He n l=okQ (Lib.parseUintM 18446744073709551615 n l):=by
 induction l with
 | nil=>intro n hn;rfl
 | cons c r ih=>
  intro n hn;unfold He Lib.parseUintM;by_cases hd:fq c=true
  ·have h1:=(nj c).1 hd;rw[if_pos hd,if_pos h1];by_cases hq:(18446744073709551615 - (c.toNat - 48)) / 10 < n
   ·rw[if_pos hq];by_cases h2:1844674407370955162≤n
    ·rw[if_pos h2];rfl
    ·rw[if_neg h2,if_pos ae];rfl
   ·rw[if_neg hq,if_neg ae,if_neg ae];rw[show n*10+(c.toNat - 48)=10*n+(c.toNat - 48)by omega];exact ih _ ae
  ·have h1:¬ (48≤c.toNat∧c.toNat≤57):=fun h=>hd ((nj c).2 h)
   rw[if_neg hd,if_neg h1];rfl
theorem ahW (M:Nat) (l:List UInt8):∀ (acc u:Nat),Lib.parseUintM M acc l=.ok u→px l∧u=acc*10 ^ l.length+cX l:=by
 induction l with
 | nil=>intro acc u h;unfold Lib.parseUintM at h;cases h;exact⟨fun c hc=>absurd hc aB,by simp[cX,pB]⟩
 | cons c r ih=>
  intro acc u h;unfold Lib.parseUintM at h;split at h
  ·rename_i h1
   split at h
   ·cases h
   ·split at h
    ·cases h
    ·obtain⟨h2,h3⟩:=ih _ _ h;refine⟨fun x hx=>?_,?_⟩
     ·rcases nL.1 hx with rfl|hx
      ·exact(nj _).2 h1
      ·exact h2 x hx
     ·rw[h3,dz,e8,JZ,th,lH acc 10,e9 10 (10 ^ r.length)];omega
  ·cases h
theorem aap:Lib.decDigits 0=[48]:=by rw[adW 0 ah];rfl
theorem asz {s:List UInt8} {u:Nat} (h:Lib.parseUintB 64 s=.ok u):(Lib.decDigits u == s) = !Hd s:=by
 unfold Lib.parseUintB at h;split at h
 ·cases h
 ·rename_i hne
  obtain⟨h1,h2⟩:=ahW _ _ _ _ h;rw[Nat.zero_mul,kF]at h2;subst h2;cases s with
  | nil=>exact absurd rfl hne
  | cons c r=>
   unfold Hd;by_cases hc:c=48
   ·subst hc;cases r with
    | nil=>
     have:cX [48]=0:=ah
     rw[this,aap];rfl
    | cons d r'=>
     have hf:(Lib.decDigits (cX (48::d::r')) == 48::d::r')=false:=by
      refine C9 ?_;intro e;rcases qu (cX (48::d::r'))with h0|h0
      ·rw[h0,aap]at e;cases e
      ·obtain⟨x,l,hx,hx2⟩:=agl h0;rw[hx]at e;cases e
       exact hx2 rfl
     rw[hf];rfl
   ·rw[(agk h1 hc).1,beq_self_eq_true];show true = !(c == 48 && !r.isEmpty);rw[bN hc];rfl
theorem Ti (s:List UInt8):lj s=if (ja s).2=true then ja s else (0,false):=by
 unfold lj ja;cases hp:Lib.parseUintB 64 s with
 | ok u=>
  simp only;rw[asz hp];unfold Lib.parseUintB at hp;split at hp
  ·cases hp
  ·cases hz:Hd s
   ·simp only[zC,tj,Bool.not_false,kG];rw[acj s 0 ah];rw[show(18446744073709551615:Nat)=2 ^ 64 - 1 by decide,hp];rfl
   ·simp
 | range=>
  simp only[zC,tj];split
  ·rfl
  ·rename_i hz
   unfold Lib.parseUintB at hp;split at hp
   ·cases hp
   ·exact aci
 | _=>
  simp only[zC,tj];split
  ·rfl
  ·rename_i hz
   unfold Lib.parseUintB at hp;split at hp
   ·rename_i h0
    subst h0;exact absurd rfl hz
   ·exact aci
theorem aaq {s:List UInt8} {u:Nat} (h:lj s=(u,true)):Lib.parseUintB 64 s=.ok u∧Lib.decDigits u=s∧s≠[]:=by
 rw[Ti]at h;split at h
 ·unfold ja at h;split at h
  ·rename_i x hp
   injection h with h1 h2
   subst h1;refine⟨hp,eq_of_beq h2,fun e=>?_⟩;subst e;cases hp
  ·cases h
  ·cases h
 ·cases h
theorem ahX {s:List UInt8} {n:Nat} (h:lj s=(n,false)):n=0∧∀ u,Lib.parseUintB 64 s=.ok u→Lib.decDigits u≠s:=by
 rw[Ti]at h;split at h
 ·rename_i h2
  rw[h]at h2;cases h2
 ·rename_i h2
  injection h with h1
  refine⟨h1.symm,fun u hu e=>h2 ?_⟩;unfold ja;rw[hu]
  simpa using e
def KD (s:List UInt8):Option Int:=match s with
 | []=>none
 | c::r=>if c=45 then (if (lj r).2=true∧0 < (lj r).1∧(lj r).1≤9223372036854775808 then some (-((lj r).1:Int)) else none)
  else (if (lj (c::r)).2=true∧(lj (c::r)).1 < 9223372036854775808 then some ((lj (c::r)).1:Int) else none)
theorem Tu (n:Nat):Lib.itoa (n:Int)=Lib.decDigits n:=by unfold Lib.itoa;rw[if_neg ae];rfl
theorem ahY {n:Nat} (h:0 < n):Lib.itoa (-(n:Int))=45::Lib.decDigits n:=by
 unfold Lib.itoa;rw[if_pos ae];simp
theorem asA {c:UInt8} {r:List UInt8} {u:Nat} (h:lj (c::r)=(u,true)):48≤c.toNat∧c.toNat≤57:=by
 obtain⟨h1,-,-⟩:=aaq h;unfold Lib.parseUintB at h1;split at h1
 ·cases h1
 ·have h2:=(ahW _ _ _ _ h1).1 c aB;exact(nj c).1 h2
def Tv (r:Lib.NumEnd Nat):Lib.NumEnd Int:=match r with
 | .ok u=>if 9223372036854775808 < u then .range else .ok (-(u:Int))
 | Lib.NumEnd.syntax=>Lib.NumEnd.syntax
 | .range=>.range
def Hh (r:Lib.NumEnd Nat):Lib.NumEnd Int:=match r with
 | .ok u=>if 9223372036854775808≤u then .range else .ok (u:Int)
 | Lib.NumEnd.syntax=>Lib.NumEnd.syntax
 | .range=>.range
theorem asB (r:List UInt8):Lib.parseIntB 64 (45::r)=Tv (Lib.parseUintB 64 r):=by
 unfold Lib.parseIntB;simp only;rw[if_pos (show UInt8.toNat 45=43∨UInt8.toNat 45=45 from Or.inr rfl)];cases Lib.parseUintB 64 r with
 | range=>rfl
 | ok u=>
  have h45:(45:UInt8).toNat=45:=rfl;simp only[h45,not_true_eq_false,false_and,tj,true_and,kG,Tv];try rfl
 | _=>rfl
theorem asC (c:UInt8) (r:List UInt8) (h1:c.toNat≠45) (h2:c.toNat≠43):Lib.parseIntB 64 (c::r)=Hh (Lib.parseUintB 64 (c::r)):=by
 unfold Lib.parseIntB;simp only;rw[if_neg (show ¬ (c.toNat=43∨c.toNat=45)by omega)];cases Lib.parseUintB 64 (c::r)with
 | range=>rfl
 | ok u=>
  simp only[h1,not_false_eq_true,true_and,false_and,tj,Hh];try rfl
 | _=>rfl
theorem asD (c:UInt8) (r:List UInt8) (h2:c.toNat=43):Lib.parseIntB 64 (c::r)=Hh (Lib.parseUintB 64 r):=by
 unfold Lib.parseIntB;simp only;rw[if_pos (show c.toNat=43∨c.toNat=45 from Or.inl h2)];have h1:c.toNat≠45:=ae;cases Lib.parseUintB 64 r with
 | range=>rfl
 | ok u=>
  simp only[h1,not_false_eq_true,true_and,false_and,tj,Hh];try rfl
 | _=>rfl
def Hi (s:List UInt8) (r:Lib.NumEnd Int):Option Int:=match r with
 | .ok v=>if Lib.itoa v=s then some v else none
 | _=>none
theorem aar (s:List UInt8) {r:Lib.NumEnd Int} (h:Lib.parseIntB 64 s=r):qN s=Hi s r:=by
 rw[← h];rfl
theorem ahZ:Lib.itoa (-((0:Nat):Int))=[48]:=by
 rw[show(-((0:Nat):Int))=((0:Nat):Int)by simp,Tu,aap]
theorem asg (s:List UInt8):KD s=qN s:=by
 cases s with
 | nil=>rfl
 | cons c r=>
  unfold KD;simp only;by_cases hc:c=45
  ·subst hc;rw[if_pos rfl];have hI:=aar (45::r) (asB r);cases hq:lj r with
   | mk u b=>
    cases b with
    | true=>
     obtain⟨h1,h2,h3⟩:=aaq hq;rw[h1]at hI;unfold Tv at hI;simp only at hI;rw[hI];by_cases hu:9223372036854775808 < u
     ·rw[if_pos hu,if_neg (fun h=>by have:=h.2.2;simp only at this;omega)];rfl
     ·rw[if_neg hu];by_cases h0:0 < u
      ·rw[if_pos ⟨rfl,h0,by simp only;omega⟩];simp only[Hi];rw[ahY h0,h2,if_pos rfl]
      ·obtain rfl:u=0:=by omega
       rw[if_neg (fun h=>by have:=h.2.1;simp only at this;omega)];simp only[Hi];rw[ahZ,if_neg (by intro e;cases e)]
    | false=>
     obtain⟨h1,h2⟩:=ahX hq;rw[if_neg (fun h=>by cases h.1),hI];cases hp:Lib.parseUintB 64 r with
     | range=>rfl
     | ok v=>
      unfold Tv;simp only;by_cases hu:9223372036854775808 < v
      ·rw[if_pos hu];rfl
      ·rw[if_neg hu];simp only[Hi];rw[if_neg];intro e;rcases qu v with h0|h0
       ·subst h0;rw[ahZ]at e;cases e
       ·rw[ahY h0]at e;injection e with _ e
        exact h2 v hp e
     | _=>rfl
  ·have hcn:c.toNat≠45:=fun e=>hc (nK.1 e)
   rw[if_neg hc];by_cases D9:c.toNat=43
   ·have hI:=aar (c::r) (asD c r D9);cases hq:lj (c::r)with
    | mk u b=>
     cases b with
     | true=>
      have:=asA hq;omega
     | false=>
      rw[if_neg (fun h=>by cases h.1),hI];cases hp:Lib.parseUintB 64 r with
      | range=>rfl
      | ok v=>
       unfold Hh;simp only;by_cases hu:9223372036854775808≤v
       ·rw[if_pos hu];rfl
       ·rw[if_neg hu];simp only[Hi];rw[if_neg];intro e;rw[Tu]at e;have jn:=Nu v c (by rw[e];simp);have:=(nj c).1 jn;omega
      | _=>rfl
   ·have hI:=aar (c::r) (asC c r hcn D9);cases hq:lj (c::r)with
    | mk u b=>
     cases b with
     | true=>
      obtain⟨h1,h2,h3⟩:=aaq hq;rw[h1]at hI;unfold Hh at hI;simp only at hI;rw[hI];by_cases hu:u < 9223372036854775808
      ·rw[if_pos ⟨rfl,hu⟩,if_neg (show ¬ 9223372036854775808≤u by omega)];simp only[Hi];rw[Tu,h2,if_pos rfl]
      ·rw[if_neg (fun h=>hu h.2),if_pos (show 9223372036854775808≤u by omega)];rfl
     | false=>
      obtain⟨h1,h2⟩:=ahX hq;rw[if_neg (fun h=>by cases h.1),hI];cases hp:Lib.parseUintB 64 (c::r)with
      | range=>rfl
      | ok v=>
       unfold Hh;simp only;by_cases hu:9223372036854775808≤v
       ·rw[if_pos hu];rfl
       ·rw[if_neg hu];simp only[Hi];rw[if_neg];intro e;rw[Tu]at e;exact h2 v hp e
      | _=>rfl
open Go.RowKit Go.Shelf
inductive aF where
 | ok (ts:List aw)
 | bad (no line ak:Int)
def aF.isOk:aF→Prop
 | .ok _=>True
 | .bad _ _ _=>False
def aF.run {α:Type} (st:aF) (d:α) (p:List aw→PR α):α×aF:=match st with
 | .ok ts=>(match p ts with
  | .ok x aJ=>(x,.ok aJ)
  | .bad n l c=>(d,.bad n l c))
 | .bad n l c=>(d,.bad n l c)
theorem run_bind {α β:Type} (st:aF) (d1:α) (d:β) (p:List aw→PR α) (f:α→List aw→PR β):st.run d (fun ts=>(p ts).bind f)=(st.run d1 p).2.run d (f (st.run d1 p).1):=by
 cases st with
 | ok ts=>
  refine nD ?_;cases p ts<;>rfl
 | bad n l c=>rfl
theorem iA {α β:Type} {st:aF} (d1:α) {d:β} {p:List aw→PR α} {f:α→List aw→PR β} {R:β×aF} (h:R=st.run d (fun ts=>(p ts).bind f)):∃ u s,u=(st.run d1 p).1∧s=(st.run d1 p).2∧R=s.run d (f u):=⟨_,_,rfl,rfl,h.trans (run_bind st d1 d p f)⟩
theorem abx {α:Type} {st:aF} {d:α} {p:List aw→PR α} (h:(st.run d p).2.isOk):st.isOk:=by
 cases st with
 | ok ts=>trivial
 | bad n l c=>exact h
def aF.ko (st:aF) (n:Int):aF:=match st with
 | .ok ts=>.bad n (ax ts).line (ax ts).ak
 | .bad a b c=>.bad a b c
def aF.form (st:aF):aF:=match st with
 | .ok ts=>.bad (lM ts) (ax ts).line (ax ts).ak
 | .bad a b c=>.bad a b c
def aF.sees (st:aF) (k:Int) (text:List UInt8):Bool:=match st with
 | .ok ts=>(ax ts).kind == k && (ax ts).text == text
 | .bad _ _ _=>false
def aet (t:aw):Prop:=(t.kind=1→∃ c r,t.text=c::r∧js c.toNat=true)∧(t.kind=4→∃ c r,t.text=c::r∧js c.toNat=false)∧(t.kind=2→∃ x,nd t.text=some x)
structure mD (T:List aw):Prop where
 b:di T
 k:∀ t∈T,aet t
theorem di.drop {T:List aw} (h:di T) {i:Nat} (hi:i < T.length):di (T.drop i):=by
 obtain⟨⟨l,e,rfl,he⟩,h2,h3⟩:=h;refine⟨⟨l.drop i,e,?_,he⟩,fun t ht=>h2 t (List.mem_of_mem_drop ht),Ih⟩;rw[ey,LI]at hi;rw[List.drop_append_of_le_length ae]
theorem head_drop {T:List aw} {i:Nat} (hi:i < T.length):ax (T.drop i)=T[i]:=by
 rw[jq hi];rfl
theorem tail_drop {T:List aw} (i:Nat):(T.drop i).tail=T.drop (i+1):=by
 rw[List.tail_drop]
def ahC (k:Int) (text:List UInt8):Prop:=∃ c r,text=c::r∧((k=1∧js c.toNat=true)∨(k=4∧js c.toNat=false))
theorem sL {T:List aw} (hT:mD T) {i:Nat} (hi:i < T.length) {k:Int} {text:List UInt8} (h:ahC k text):(aF.ok (T.drop i)).sees k text=dt text (T.drop i):=by
 have hk:=hT.k _ (gU hi);unfold aF.sees dt;simp only;rw[head_drop hi];generalize T[i]=t at *;obtain⟨c,r,rfl,h⟩:=h;by_cases ht:t.text=c::r
 ·rw[fy ht,dZ.2 ht,Bool.and_true,Bool.true_and];rcases h with ⟨rfl,hc⟩|⟨rfl,hc⟩
  ·have h4:t.kind≠4:=fun e=>by
    obtain⟨c2,r2,e2,h2⟩:=hk.2.1 e;rw[ht]at e2;cases e2
    rw[hc]at h2;cases h2
   rw[bN h4,Bool.or_false]
  ·have h1:t.kind≠1:=fun e=>by
    obtain⟨c2,r2,e2,h2⟩:=hk.1 e;rw[ht]at e2;cases e2
    rw[hc]at h2;cases h2
   rw[bN h1,Bool.false_or]
 ·rw[dU ht,bN ht,Bool.and_false,Bool.false_and]
def eV (w:World) (kr:Nat) (T:List aw) (i:Nat) (no l c:Int):Prop:=
 ∃ a cap,w.heap[kr]? = some (.cells #[.slice a T.length cap,.int .i64 (i:Nat),.int .i64 no,.int .i64 l,.int .i64 c] 126)∧bA w bZ 4 a cap T∧∀ b o,a=some ⟨b,o,none⟩→b < kr
def bD (w:World) (kr:Nat) (T:List aw) (st:aF):Prop:=match st with
 | .ok ts=>∃ i,i < T.length∧ts=T.drop i∧eV w kr T i 0 0 0
 | .bad no l c=>no≠0∧∃ i,i≤T.length∧eV w kr T i no l c
theorem eV.other {w w':World} {kr:Nat} {T:List aw} {i:Nat} {no l c:Int} (h:eV w kr T i no l c) (hb:∀ b,b≤kr→w'.heap[b]? = w.heap[b]?):eV w' kr T i no l c:=by
 obtain⟨a,cap,h1,h2,h3⟩:=h;exact⟨a,cap,(hb kr af).trans h1,h2.of_block fun b o e=>hb b (gV (h3 b o e)),h3⟩
theorem eV.lt {w:World} {kr:Nat} {T:List aw} {i:Nat} {no l c:Int} (h:eV w kr T i no l c):kr < w.heap.size:=by
 obtain⟨a,cap,h1,-⟩:=h;exact(gE h1)
theorem eV.keep {w w':World} {kr:Nat} {T:List aw} {i:Nat} {no l c:Int} (h:eV w kr T i no l c) (hb:Below w.heap.size w w'):eV w' kr T i no l c:=by
 have:=h.lt;exact h.other fun b bO=>hb.block b ae
theorem bD.other {w w':World} {kr:Nat} {T:List aw} {st:aF} (h:bD w kr T st) (hb:∀ b,b≤kr→w'.heap[b]? = w.heap[b]?):bD w' kr T st:=by
 cases st with
 | ok ts=>obtain⟨i,h1,h2,h3⟩:=h;exact⟨i,h1,h2,h3.other hb⟩
 | bad n l c=>obtain⟨h0,i,h1,h3⟩:=h;exact⟨h0,i,h1,h3.other hb⟩
theorem bD.lt {w:World} {kr:Nat} {T:List aw} {st:aF} (h:bD w kr T st):kr < w.heap.size:=by
 cases st with
 | ok ts=>obtain⟨i,h1,h2,h3⟩:=h;exact h3.lt
 | bad n l c=>obtain⟨h0,i,h1,h3⟩:=h;exact h3.lt
theorem bD.keep {w w':World} {kr:Nat} {T:List aw} {st:aF} (h:bD w kr T st) (hb:Below w.heap.size w w'):bD w' kr T st:=by
 have:=h.lt;exact h.other fun b bO=>hb.block b ae
theorem bD.row {w:World} {kr:Nat} {T:List aw} {st:aF} (h:bD w kr T st) {k:Nat} (hk:kr < k) (L:Array Value):bD (w.setRow k L) kr T st:=h.other fun b hb=>gK _ _ _ _ ae
theorem bD.set {w:World} {kr:Nat} {T:List aw} {st:aF} (h:bD w kr T st) {k:Nat} (hk:kr < k) (j:Nat) (v:Value):bD (w.setCell ⟨k,j,none⟩ v) kr T st:=h.other fun b hb=>dN _ _ _ _ (show b≠k by omega)
theorem bD.low {kr B:Nat} {W w1:World} {T:List aw} {st:aF} (h:bD W kr T st) (hk:kr < B) (hb:Below B W w1):bD w1 kr T st:=h.other fun b hb'=>hb.block b ae
theorem eV.next {w:World} {kr:Nat} {T:List aw} {i:Nat} {no l c:Int} (h:eV w kr T i no l c):eV (w.setCell ⟨kr,1,none⟩ (.int .i64 ((i+1:Nat):Int))) kr T (i+1) no l c:=by
 obtain⟨a,cap,h1,h2,h3⟩:=h;exact⟨a,cap,bJ h1 1 _,h2.of_block fun b o e=>dN _ _ _ _ (show b≠kr by have:=h3 b o e;omega),h3⟩
def rI (T:List aw) (i:Nat):aw:=T.getD (min i (T.length - 1)) ⟨0,[],0,0⟩
theorem pQ {T:List aw} {i:Nat} (hi:i < T.length):rI T i=ax (T.drop i):=by
 rw[head_drop hi];unfold rI;rw[Fx ae,Iv,kC hi];rfl
def wM (kr:Nat) (w:World) (T:List aw) (V:Value) (st:aF) (e:Ending) (w':World):Prop:=e=.returned V∧aA kr w w'∧bD w' kr T st
open Go.Proofs.Tryz
theorem arY {P:Program} {ops:Array Oper} {W:World} {Q:Act→Prop} {rest:List Oper} {o:Oper} {a:Act} {k off:Nat} {cs:List Value} (hS:W.rangeAt k off cs) (ty:TypeId) (x:Operand) {d:TypeDesc}
  (hu:P.underlying ty=some d) (hi:(P.info? ty).map (·.size)=some cs.length)
  (h:wpStill P ops W Q rest (a.put o.dst (.agg cs.toArray)))
  (hgd:o.guard=none:=by rfl) (ho:o.op=.load ty x:=by rfl) (hx:a.eval x=.pointer (some ⟨k,off,none⟩):=by rfl) (hd:d.isRow=true:=by rfl):wpStill P ops W Q (o::rest) a:=by
 unfold wpStill;refine Ia ?_;unfold Oper.still execOp;simp only[ho,hx,Instr.loadAt,Instr.sureAddr,rT,Sem.run_pure,Fu,run_loadVar_mid (P:=P) W k off ty cs d hS hu hd hi];exact⟨rfl,h⟩
theorem nw (T:List aw) (hT:0 < T.length) (hl:T.length≤4000000) (i:Nat) (no l c:Int) (kr:Nat) (w:World) (hi:i≤T.length) (h:eV w kr T i no l c) :
  Calls prog 47 #[.pointer (some ⟨kr,0,none⟩)] w fun e w'=>e=.returned (eG (rI T i))∧Below w.heap.size w w':=by
 obtain⟨a,cap,hk,hs,-⟩:=h;obtain⟨m,hm⟩:∃ m,m=min i (T.length - 1):=⟨_,rfl⟩
 have hmT:m < T.length:=ae;obtain⟨b,o,rfl,hb,hc⟩:=bA.cells hs Gj ah hmT;refine O8 ?_;intro hb1;have f0:(w.alloc (.cells kB 129)).cell? ⟨kr,0,none⟩=some (.slice (some ⟨b,o,none⟩) T.length cap):=dx (ai.cell ⟨_,hk⟩ 0 _ rfl) hb1;have f1:(w.alloc (.cells kB 129)).cell? ⟨kr,1,none⟩=some (.int .i64 (i:Nat)):=dx (ai.cell ⟨_,hk⟩ 1 _ rfl) hb1;have hrg:(w.alloc (.cells kB 129)).rangeAt b (o+m*4) (bZ T[m]):=fun j v hv=>by
  have hj:j < 4:=(by have:=(zt.1 hv).1;rwa [Gj]at this);have:=hc j hj;rw[← kE]at this;exact dx (this.trans hv) hb1
 have hH:rI T i=T[m]:=by
  unfold rI;rw[← hm,Iv,kC hmT];rfl
 rw[hH];have b2:ai (w.alloc (.cells kB 129)) w.heap.size kB:=ai.new w kB _;have hu:=underlying129;obtain⟨L,hL⟩:∃ L,L=bZ T[m]:=⟨_,rfl⟩
 refine abO ?_;intro hL4 mH hsz GI;rw[← hL]at hrg ⊢;have HB:=Qh hb1;have hn:T.length < 4611686018427387904:=ae;clear hs hc hL hH hk hb1;generalize T.length=n at *;have Dt:((n:Int) - 1)=((n - 1:Nat):Int):=ae;have HLA:=Qh Dt;have hw:IntKind.i64.wrap ((n:Int) - 1)=((n - 1:Nat):Int):=Pz;have avA:min (i:Int) ((n - 1:Nat):Int)=(m:Int):=ae;have qA:(m:Int) < n:=ae;clear Dt hm hn hi hl HLA;generalize n - 1=n1 at *;go_enter func47,ntmps47
 go_wp2_with fail;generalize w.alloc (.cells kB 129)=W at *;have arZ:W.drew.rangeAt b (o+m*4) L:=hrg;have b2d:ai W.drew w.heap.size kB:=b2;refine wp_region_still_tail 17 aj aj ?_;refine UW ?_
 repeat (first|(refine arY (W:=W.drew) arZ 129 (.tmp 18) hu hsz ?_;simp only[Act.put,nI,oZ,ox])|still_step)
 refine wpStill_nil ?_;change wpList _ _ _ _ _ W.drew;go_wp2_with (refine iC (cs:=L.toArray) b2d 129 (.tmp 2) (.tmp 19) (by rw[GI];exact H7) (by rw[GI];rfl) mH ?_)
 have hrun:=fo (b2d.row L.toArray) 129 _ hu rfl (by rw[GI];exact H7);refine bB (v:=.agg L.toArray) (by simp[results,results47,Act.put,asAddr,hrun]) rfl ⟨rfl,pL HB.o.drew af _⟩
theorem eV.ahy {w:World} {kr:Nat} {T:List aw} {i:Nat} {no l c:Int} (h:eV w kr T i no l c) (n:Int):eV (w.setCell ⟨kr,2,none⟩ (.int .i64 n)) kr T i n l c:=by
 obtain⟨a,cap,h1,h2,h3⟩:=h;exact⟨a,cap,bJ h1 2 _,h2.of_block fun b o e=>dN _ _ _ _ (show b≠kr by have:=h3 b o e;omega),h3⟩
theorem eV.ahz {w:World} {kr:Nat} {T:List aw} {i:Nat} {no l c:Int} (h:eV w kr T i no l c) (n:Int):eV (w.setCell ⟨kr,3,none⟩ (.int .i64 n)) kr T i no n c:=by
 obtain⟨a,cap,h1,h2,h3⟩:=h;exact⟨a,cap,bJ h1 3 _,h2.of_block fun b o e=>dN _ _ _ _ (show b≠kr by have:=h3 b o e;omega),h3⟩
theorem eV.ahA {w:World} {kr:Nat} {T:List aw} {i:Nat} {no l c:Int} (h:eV w kr T i no l c) (n:Int):eV (w.setCell ⟨kr,4,none⟩ (.int .i64 n)) kr T i no l n:=by
 obtain⟨a,cap,h1,h2,h3⟩:=h;exact⟨a,cap,bJ h1 4 _,h2.of_block fun b o e=>dN _ _ _ _ (show b≠kr by have:=h3 b o e;omega),h3⟩
theorem eV.cells {w:World} {kr:Nat} {T:List aw} {i:Nat} {no l c:Int} (h:eV w kr T i no l c):∃ v:Value,ai w kr #[v,.int .i64 (i:Nat),.int .i64 no,.int .i64 l,.int .i64 c]:=by
 obtain⟨a,cap,h1,-⟩:=h;exact⟨_,_,h1⟩
theorem eV.AY {w:World} {kr:Nat} {T:List aw} {i:Nat} (h:eV w kr T i 0 0 0) (hi:i < T.length):bD w kr T (.ok (T.drop i)):=⟨i,hi,rfl,h⟩
theorem eV.aab {w:World} {kr:Nat} {T:List aw} {i:Nat} {no l c:Int} (h:eV w kr T i no l c) (hi:i≤T.length) (hn:no≠0):bD w kr T (.bad no l c):=⟨hn,i,hi,h⟩
theorem Hc (n:Int) (hn:n≠0) (T:List aw) (hT:mD T) (st:aF) (kr:Nat) (w:World) (h:bD w kr T st) :
  Calls prog 52 #[.pointer (some ⟨kr,0,none⟩),.int .i64 n] w fun e w'=>wM kr w T (.tuple #[]) (st.ko n) e w':=by
 have bm:=hT.b.1.pos;have hlen:=hT.b.2.2;cases st with
 | bad no l c=>
  refine Lp h ?_;intro h0 i hi hr v hc c2 e0;have HR:=Qh (show bD w kr T (.bad no l c)from ⟨h0,i,hi,hr⟩);clear hr hc;go_enter func52,ntmps52
  go_wp2_with fail;refine⟨rfl,.tuple #[],by simp[results,results52],rfl,aA.of_below kr (aC _ _),HR.o⟩
 | ok ts=>
  obtain⟨i,hi,rfl,hr⟩:=h;refine wV hr.cells ?_;intro v hc c2;have r2:=hc.free 2;have hr2:=hr.ahy n;refine aY ((aA.of_below kr (aC w.heap.size w)).set 2 (.int .i64 n)) hr2 (pQ hi) ?_;intro HO HR HD;clear hr hc hr2;go_enter func52,ntmps52
  go_upto_region 2 with fail
  clear c2 r2;generalize w.setCell ⟨kr,2,none⟩ (.int .i64 n)=w1 at *;have cn:=nw T bm hlen i n 0 0 kr w1 (gV hi) HR.o;unfold eG bZ at cn;have hf2:=yF;go_wp2_with fail;refine aQ cn ?_;intro w2 hb;have gi:=Qh (HR.o.keep hb);have aU:=Qh (HO.o.trans (aA.of_below kr hb));obtain⟨v2,hc⟩:=gi.o.cells;rw[HD.o];have HW:=Qh (show(aF.ok (T.drop i)).ko n=.bad n (ax (T.drop i)).line (ax (T.drop i)).ak from rfl);generalize (ax (T.drop i)).line=L at *;generalize (ax (T.drop i)).ak=C at *;have c3:=hc.cell 3 (.int .i64 0) rfl;have r3:=hc.free 3;have c4:=hc.cell 4 (.int .i64 0) rfl;have r4:=hc.free 4;refine abN ?_;intro d4 s4
  clear cn hb hc HD;go_wp2_with fail;refine⟨rfl,.tuple #[],by simp[results,results52],rfl,(aU.o.set 3 _).set 4 _,?_⟩;rw[HW.o];exact((gi.o.ahz L).ahA C).aab (gV hi) hn
theorem EI (T:List aw) (hT:mD T) (st:aF) (kr:Nat) (w:World) (h:bD w kr T st) :
  Calls prog 55 #[.pointer (some ⟨kr,0,none⟩)] w fun e w'=>wM kr w T (.tuple #[]) st.form e w':=by
 have bm:=hT.b.1.pos;have hlen:=hT.b.2.2;have hf0:=pC;cases st with
 | bad no l c=>
  have h':=h;obtain⟨h0,i,hi,hr⟩:=h';have cn:=nw T bm hlen i no l c kr w hi hr;have cw:=fun n hn W hW=>Hc n hn T hT (.bad no l c) kr W hW
  have HR:=Qh h;unfold eG bZ at cn;generalize rI T i=t at *;clear hr h;by_cases hk:t.kind=0
  ·go_enter func55,ntmps55
   go_wp2_with fail;refine aQ cn ?_;intro w1 hb;have cW:=cw 2 ah w1 (HR.o.keep hb);have HO:=Qh (aA.of_below kr hb);rw[hk];clear hb cn cw;exact ab3 cW
  ·have e0:=bN hk;go_enter func55,ntmps55
   go_wp2_with fail;refine aQ cn ?_;intro w1 hb;have cW:=cw 4 ah w1 (HR.o.keep hb);have HO:=Qh (aA.of_below kr hb);generalize t.kind=K at *;clear hb cn cw;exact ab3 cW
 | ok ts=>
  have h':=h;obtain⟨i,hi,rfl,hr⟩:=h';have cn:=nw T bm hlen i 0 0 0 kr w (gV hi) hr;rw[pQ hi]at cn;have cw:=fun n hn W hW=>Hc n hn T hT (.ok (T.drop i)) kr W hW
  have HR:=Qh h;have HF:=Qh (show(aF.ok (T.drop i)).form=(aF.ok (T.drop i)).ko (lM (T.drop i))from rfl);unfold lM at HF;unfold eG bZ at cn;clear hr h;by_cases hk:(ax (T.drop i)).kind=0
  ·go_enter func55,ntmps55
   go_wp2_with fail;refine aQ cn ?_;intro w1 hb;have cW:=cw 2 ah w1 (HR.o.keep hb);have HO:=Qh (aA.of_below kr hb);have vD:=Qh (show(aF.ok (T.drop i)).form=(aF.ok (T.drop i)).ko 2 by rw[HF.o,if_pos hk]);rw[hk];clear hb cn cw;exact abS cW
  ·have e0:=bN hk;go_enter func55,ntmps55
   go_wp2_with fail;refine aQ cn ?_;intro w1 hb;have cW:=cw 4 ah w1 (HR.o.keep hb);have HO:=Qh (aA.of_below kr hb);have vD:=Qh (show(aF.ok (T.drop i)).form=(aF.ok (T.drop i)).ko 4 by rw[HF.o,if_neg hk]);generalize (ax (T.drop i)).kind=K at *;clear hb cn cw;exact abS cW
def eL:aw:=⟨0,[],0,0⟩
def aF.named (st:aF):Bool:=match st with
 | .ok ts=>p8 ts
 | .bad _ _ _=>false
theorem eV.step {w:World} {kr:Nat} {T:List aw} {i:Nat} (h:eV w kr T i 0 0 0) (hT:mD T) (hi:i < T.length) (hk:(ax (T.drop i)).kind≠0):bD (w.setCell ⟨kr,1,none⟩ (.int .i64 ((i:Int)+1))) kr T (.ok (T.drop i).tail):=by
 have h1:=((hT.b.drop hi).tail hk).1.pos;rw[tail_drop]at h1 ⊢;rw[e7]at h1;exact⟨i+1,ae,rfl,h.next⟩
theorem ahB (w:World) (t:aw):(w.alloc (.cells (bZ t).toArray 129)).cell? ⟨w.heap.size,0,none⟩=some (.int .i64 t.kind)∧(w.alloc (.cells (bZ t).toArray 129)).cell? ⟨w.heap.size,1,none⟩=some (.string ⟨t.text.toArray⟩):=
 ⟨(ai.new w _ _).cell 0 _ rfl,(ai.new w _ _).cell 1 _ rfl⟩
theorem EJ (k:Int) (text:List UInt8) (T:List aw) (hT:mD T) (st:aF) (kr:Nat) (w:World) (h:bD w kr T st) :
  Calls prog 46 #[.pointer (some ⟨kr,0,none⟩),.int .i64 k,.string ⟨text.toArray⟩] w fun e w'=>e=.returned (.bool (st.sees k text))∧Below w.heap.size w w':=by
 have bm:=hT.b.1.pos;have hlen:=hT.b.2.2;obtain⟨B,hB⟩:∃ B,B=st.sees k text:=⟨_,rfl⟩
 rw[← hB];unfold aF.sees at hB;obtain⟨i,no,l,c,t,hi,hr,hd,Dy⟩:∃ (i:Nat) (no l c:Int) (t:aw),i≤T.length∧eV w kr T i no l c∧rI T i=t∧B=((no == 0) && (t.kind == k && t.text == text)):=by
  cases st with
  | ok ts=>
   obtain⟨i,hi,rfl,hr⟩:=h;exact⟨i,0,0,0,_,gV hi,hr,pQ hi,by rw[hB];rfl⟩
  | bad no l c=>
   obtain⟨h0,i,hi,hr⟩:=h;exact⟨i,no,l,c,_,hi,hr,rfl,by rw[hB,bN h0];rfl⟩
 have cn:=nw T bm hlen i no l c kr w hi hr;rw[hd]at cn;unfold eG at cn;have HR:=Qh hr;have mX:=Qh Dy;have mH:=C5 t;have hsz:(bZ t).toArray.size=4:=rfl;have Pn:=Qh (fun W=>ahB W t);generalize (bZ t).toArray=L at *;clear hB Dy hr hd h;go_enter func46,ntmps46
 go_wp2_with fail;(with_reducible refine cn.mono ?_);rintro e w1 ⟨rfl,hb⟩;have HB:=Qh (hb.alloc hb.size (.cells L 129));have hc0:=(HR.o.keep hb).cells;obtain⟨v,hc⟩:=hc0;have dC:Below w1.heap.size w1 (w1.alloc (.cells L 129)):=(aC _ _).alloc af _;have f2:=(hc.keep dC af).cell 2 (.int .i64 no) rfl;obtain⟨f0,f1⟩:=Pn.o w1;clear cn hb hc dC;go_upto_region 2 with (refine eX (Z:=kB) (cs:=L) 129 (.tmp 7) (.tmp 9) Ij Bk mH ?_)
 generalize w1.alloc (.cells L 129)=W at *;generalize w1.heap.size=k1 at *;have HQ:=Qh (YG t.text text);generalize t.kind=K at *;generalize t.text=X at *;by_cases h0:no=0
 ·subst h0;by_cases hk:K=k
  ·subst hk;by_cases hx:(⟨X.toArray⟩:ByteArray)=⟨text.toArray⟩
   ·have hv:B=true:=(by rw[mX.o,dZ.2 (HQ.o.1 hx)];simp);have HV:=Qh hv;rw[hx]at f1;go_wp2_with fail;go_ret;exact⟨Bj,HB.o⟩
   ·have hne:X≠text:=fun e=>hx (HQ.o.2 e)
    have hv:B=false:=(by rw[mX.o,bN hne];simp);have HV:=Qh hv;have en:=bN hne;go_wp2_with fail;go_ret;exact⟨Bj,HB.o⟩
  ·have hv:B=false:=(by rw[mX.o,bN hk];simp);have HV:=Qh hv;have ek:=bN hk;go_wp2_with fail;go_ret;exact⟨Bj,HB.o⟩
 ·have e0:=bN h0;have HV:=Qh (show B=false by rw[mX.o,e0];rfl);go_wp2_with fail;go_ret;exact⟨Bj,HB.o⟩
theorem pI (k:Int) (text:List UInt8) (hs:ahC k text) (T:List aw) (hT:mD T) (st:aF) (kr:Nat) (w:World) (h:bD w kr T st) :
  Calls prog 49 #[.pointer (some ⟨kr,0,none⟩),.int .i64 k,.string ⟨text.toArray⟩] w fun e w'=>wM kr w T (.tuple #[]) (st.run eL (cj text)).2 e w':=by
 have cs:=EJ k text T hT st kr w h;have cf:=fun W hW=>EI T hT st kr W hW
 have hlen:=hT.b.2.2;obtain⟨R,hR⟩:∃ R,R=(st.run eL (cj text)).2:=⟨_,rfl⟩
 rw[← hR];have HR:=Qh h;cases hS:st.sees k text with
 | false=>
  have HV:=Qh (show R=st.form by
   rw[hR];cases st with
   | bad n l c=>rfl
   | ok ts=>
    obtain⟨i,hi,rfl,-⟩:=h;rw[sL hT hi hs]at hS;unfold aF.run cj;simp only;rw[hS];rfl)
  rw[hS]at cs;clear hR hS h;go_enter func49,ntmps49
  go_wp2_with fail;(with_reducible refine cs.mono ?_);rintro e w1 ⟨rfl,hb⟩;have cF:=cf w1 (HR.o.keep hb);have HO:=Qh (aA.of_below kr hb);clear cs cf hb;go_wp2_with fail;(with_reducible refine cF.mono ?_);rintro e w2 ⟨rfl,ho,hq⟩;have aU:=Qh (HO.o.trans ho);have HQ:=Qh hq;clear cF ho hq;go_wp2_with fail;refine⟨rfl,.tuple #[],by simp[results,results49],rfl,aU.o,?_⟩;rw[HV.o];exact HQ.o
 | true=>
  cases st with
  | bad n l c=>cases hS
  | ok ts=>
   obtain⟨i,hi,rfl,hr⟩:=h;rw[hS]at cs;rw[sL hT hi hs]at hS;have HV:=Qh (show R=.ok (T.drop i).tail by
    rw[hR];unfold aF.run cj;simp only;rw[hS];rfl)
   have HK:=Qh (mY hS);have nX:=Qh hr;clear hR hS hr;go_enter func49,ntmps49
   go_wp2_with fail;(with_reducible refine cs.mono ?_);rintro e w1 ⟨rfl,hb⟩;have HO:=Qh (aA.of_below kr hb);have hr1:=nX.o.keep hb;have HRS:=Qh (hr1.step hT hi HK.o);obtain⟨v,hc⟩:=hr1.cells;have f1:=hc.cell 1 (.int .i64 (i:Nat)) rfl;have r1:=hc.free 1;clear cs cf hb hr1 hc;go_wp2_with fail;refine⟨rfl,.tuple #[],by simp[results,results49],rfl,HO.o.set 1 _,?_⟩;rw[HV.o];exact HRS.o
theorem ar0 (s:List UInt8) (w:World) :
  Calls prog 105 #[.string ⟨s.toArray⟩] w fun e w'=>e=.returned (.bool (decide (s∈Ay)))∧Below w.heap.size w w':=by
 by_cases hm:s∈Ay
 ·rw[fy hm];unfold Ay at hm;simp only[nL,Fv,or_false]at hm;rcases hm with rfl|rfl|rfl|rfl|rfl|rfl
  all_goals
   go_enter func105,ntmps105
   go_wp2_with fail;go_ret;exact⟨rfl,aC _ _⟩
 ·rw[dU hm];unfold Ay at hm;simp only[nL,Fv,or_false,not_or]at hm;obtain⟨h1,h2,h3,h4,h5,h6⟩:=hm;have e1:=bN h1;have e2:=bN h2;have e3:=bN h3;have e4:=bN h4;have e5:=bN h5;have e6:=bN h6;go_enter func105,ntmps105
  go_wp2_with fail;go_ret;exact⟨rfl,aC _ _⟩
theorem ahD (T:List aw) (hT:mD T) (st:aF) (kr:Nat) (w:World) (h:bD w kr T st) :
  Calls prog 50 #[.pointer (some ⟨kr,0,none⟩)] w fun e w'=>e=.returned (.bool st.named)∧Below w.heap.size w w':=by
 have bm:=hT.b.1.pos;have hlen:=hT.b.2.2;obtain⟨B,hB⟩:∃ B,B=st.named:=⟨_,rfl⟩
 rw[← hB];unfold aF.named at hB;obtain⟨i,no,l,c,t,hi,hr,hd,Dy⟩:∃ (i:Nat) (no l c:Int) (t:aw),i≤T.length∧eV w kr T i no l c∧rI T i=t∧B=((no == 0) && (!decide (t.text∈Ay) && t.kind == 1)):=by
  cases st with
  | ok ts=>
   obtain⟨i,hi,rfl,hr⟩:=h;exact⟨i,0,0,0,_,gV hi,hr,pQ hi,by rw[hB];rfl⟩
  | bad no l c=>
   obtain⟨h0,i,hi,hr⟩:=h;exact⟨i,no,l,c,_,hi,hr,rfl,by rw[hB,bN h0];rfl⟩
 have cn:=nw T bm hlen i no l c kr w hi hr;rw[hd]at cn;unfold eG at cn;have HR:=Qh hr;have mX:=Qh Dy;have mH:=C5 t;have hsz:(bZ t).toArray.size=4:=rfl;have Pn:=Qh (fun W=>ahB W t);generalize (bZ t).toArray=L at *;have cw:=fun W=>ar0 t.text W
 clear hB Dy hr hd h;go_enter func50,ntmps50
 go_wp2_with fail;(with_reducible refine cn.mono ?_);rintro e w1 ⟨rfl,hb⟩;have HB:=Qh (hb.alloc hb.size (.cells L 129));have hc0:=(HR.o.keep hb).cells;obtain⟨v,hc⟩:=hc0;have dC:Below w1.heap.size w1 (w1.alloc (.cells L 129)):=(aC _ _).alloc af _;have f2:=(hc.keep dC af).cell 2 (.int .i64 no) rfl;obtain⟨f0,f1⟩:=Pn.o w1;clear cn hb hc dC;go_upto_region 2 with (refine eX (Z:=kB) (cs:=L) 129 (.tmp 3) (.tmp 5) Ij Bk mH ?_)
 generalize w1.alloc (.cells L 129)=W at *;generalize w1.heap.size=k1 at *;generalize decide (t.text∈Ay)=D at *;generalize t.kind=K at *;generalize t.text=X at *;by_cases h0:no=0
 ·subst h0;by_cases hk:K=1
  ·subst hk;have HV:=Qh (show B = !D by rw[mX.o];simp);go_wp2_with fail;with_reducible refine(cw _).mono ?_
   rintro e w2 ⟨rfl,hb⟩;have aM:=Qh (aH HB.o hb af);clear hb cw;go_wp2_with fail;go_ret;exact⟨Bj,aM.o⟩
  ·have hv:B=false:=(by rw[mX.o,bN hk];simp);have HV:=Qh hv;have ek:=bN hk;go_wp2_with fail;go_ret;exact⟨Bj,HB.o⟩
 ·have e0:=bN h0;have HV:=Qh (show B=false by rw[mX.o,e0];rfl);go_wp2_with fail;go_ret;exact⟨Bj,HB.o⟩
theorem N6 (s:List UInt8) (hs:s.length≤1048576) (w:World) :
  Calls prog 157 #[.string ⟨s.toArray⟩] w fun e w'=>e=.returned (.tuple #[.int .u64 ((lj s).1:Nat),.bool (lj s).2])∧Below w.heap.size w w':=by
 obtain⟨V,hV⟩:∃ V,V=lj s:=⟨_,rfl⟩
 rw[← hV];unfold lj at hV;cases hz:Hd s with
 | true=>
  rw[hz,if_pos rfl]at hV;have HV:=Qh hV;clear hV;cases s with
  | nil=>
   go_enter func157,ntmps157
   exact EV
  | cons c r=>
   unfold Hd at hz;simp only[uF,dZ]at hz;obtain⟨rfl,hr⟩:=hz;cases r with
   | nil=>cases hr
   | cons d r=>
    have hlen:((⟨(48::d::r).toArray⟩:ByteArray).size:Int)=r.length+2:=(by show((r.length+1+1:Nat):Int)=_;omega);have h1:(1:Int) < r.length+2:=ae;have h0:¬ ((r.length:Int)+2=0):=ae;go_enter func157,ntmps157
    go_wp2_with fail;all_goals
     go_ret2
     exact⟨Bj,aC _ _⟩
 | false=>
  rw[hz,if_neg ah]at hV;have HV:=Qh hV;clear hV;have hne:s≠[]:=fun e=>by subst e;cases hz
  have bm:0 < s.length:=qs.2 hne;obtain⟨c0,r0,hs0⟩:=List.exists_cons_of_ne_nil hne;have hz0:¬ (c0=48∧1 < s.length):=fun h=>by
   rw[hs0]at hz h;unfold Hd at hz;cases r0 with
   | nil=>simp at h
   | cons d r=>rw[h.1]at hz;cases hz
  have fZ:((⟨s.toArray⟩:ByteArray)[0]'(by show 0 < s.length;exact bm))=c0:=by
   subst hs0;rfl
  have hl0:((s.length:Int) == 0)=false:=ft;have HZ:=Qh hz0;clear hz hz0 hs0 hne;by_cases Gz:c0=48;rotate_left;have e48:((c0.toNat:Int) == 48)=false:=by
   refine C9 ?_;intro e;exact Gz (nK.1 (show c0.toNat=(48:UInt8).toNat by show c0.toNat=48;omega))
  clear Gz;rotate_left;have kJ:¬ ((1:Int) < s.length):=by
   have:=HZ.o;intro h;exact this ⟨Gz,ae⟩
  subst Gz;all_goals
   go_enter func157,ntmps157
   go_wp2_with fail;clear fZ hl0 HZ;go_loopw [4,5,6] (fun n i d wr=>∃ (k m:Nat),i=.int .i64 (k:Nat)∧k≤s.length∧n=.int .u64 (m:Nat)∧m < 18446744073709551616∧V=He m (s.drop k)∧wr=w) (fun _ i _ _=>s.length - (intOf i).toNat)
   case atStart=>exact⟨0,0,rfl,bV _,rfl,ah,HV.o,rfl⟩
   case round=>
    obtain⟨k,m,rfl,hk,rfl,hm,cY,rfl⟩:=hrel;clear HV;by_cases hlt:(k:Int) < s.length
    ·have a8:k < s.length:=ae;have hgk:((⟨s.toArray⟩:ByteArray)[k]'(by show k < s.length;exact a8))=s[k]:=rfl;rw[jq a8]at cY;unfold He at cY;generalize s[k]=c at *;cases hd:fq c with
     | false=>
      rw[hd,if_neg ah]at cY;have HV:=Qh cY;have xK:¬ (48≤c.toNat∧c.toNat≤57):=fun h=>by rw[(nj c).2 h]at hd;cases hd
      clear cY hd;by_cases h1:(c.toNat:Int) < 48
      ·exact EV
      ·have h2:(57:Int) < c.toNat:=ae;clear xK;exact EV
     | true=>
      rw[hd,if_pos rfl]at cY;obtain⟨hc1,hc2⟩:=(nj c).1 hd;have h1:¬ ((c.toNat:Int) < 48):=ae;have h2:¬ ((57:Int) < c.toNat):=ae;obtain⟨d,hdd⟩:∃ d,d=c.toNat - 48:=⟨_,rfl⟩
      have hd9:d≤9:=ae;have hw8:IntKind.u8.wrap ((c.toNat:Int) - 48)=(d:Int):=Pz;rw[← hdd]at cY;have HV:=Qh cY;clear cY hd hc1 hc2 hdd;by_cases hq:((18446744073709551615 - (d:Int)) / 10 < (m:Int))
      ·have lR:=Qh (show V=(0,false)by rw[HV.o,if_pos ae]);go_wp2_with fail;go_ret2
       exact⟨by rw[lR.o]<;>rfl,aC _ _⟩
      ·have lR:=Qh (show V=He (10*m+d) (s.drop (k+1))by rw[HV.o,if_neg ae]);have ho1:10*m < 18446744073709551616:=ae;have ho2:10*m+d < 18446744073709551616:=ae;go_wp2_with fail;go_roundw;case rel=>exact⟨k+1,10*m+d,bL,ae,bL,ho2,lR.o,trivial⟩
       case measure=>exact bY
    ·obtain rfl:k=s.length:=by omega
     rw[qZ]at cY;have HV:=Qh cY;clear cY;exact EV
theorem ahE (c:UInt8) (r:List UInt8):(⟨(c::r).toArray⟩:ByteArray).extract 1 (r.length+1)=⟨r.toArray⟩:=FR (c::r) 1 aB
theorem ar1 (s:List UInt8) (hs:s.length≤1048576) (w:World) :
  Calls prog 161 #[.string ⟨s.toArray⟩] w fun e w'=>∃ z:Int,e=.returned (.tuple #[.int .i64 z,.bool (KD s).isSome])∧(∀ v,KD s=some v→z=v)∧Below w.heap.size w w':=by
 obtain⟨V,hV⟩:∃ V,V=KD s:=⟨_,rfl⟩
 rw[← hV];unfold KD at hV;cases s with
 | nil=>
  have cq:=N6 [] ah w;have hq:lj []=(0,false):=rfl;rw[hq]at cq;have HV:=Qh hV;clear hV;go_enter func161,ntmps161
  go_wp2_with fail;refine qT cq ?_;clear cq;intro w1 HB;go_wp2_with fail;go_ret2
  rw[HV.o];exact⟨_,rfl,(fun v hv=>by cases hv),HB.o⟩
 | cons c r=>
  simp only at hV;have fZ:((⟨(c::r).toArray⟩:ByteArray)[0]'(by show 0 < (c::r).length;simp))=c:=rfl;have hl0:(0:Int) < ((c::r).length:Nat):=aB;have hex:=ahE c r;have hrl:r.length≤1048576:=(by simp at hs;omega);by_cases hc:c=45
  ·subst hc;rw[if_pos rfl]at hV;have cq:=N6 r hrl w;generalize lj r=q at *;obtain⟨n,b⟩:=q;simp only at hV cq;have hcb:((45:UInt8).toNat:Int)=45:=rfl;cases b with
   | false=>
    have HV:=Qh (show V=none by rw[hV,if_neg (fun h=>by cases h.1)]);clear hV hs;exact CS cq
   | true=>
    by_cases h0:0 < n
    ·by_cases h63:n≤9223372036854775808
     ·have HV:=Qh (show V=some (-(n:Int))by rw[hV,if_pos ⟨rfl,h0,h63⟩]);clear hV hs;by_cases oQ:n=9223372036854775808
      ·subst oQ;exact CS cq
      ·have h0i:(0:Int) < n:=ae;have aac:(n:Int)≤9223372036854775808:=ae;have avB:(n:Int) < 9223372036854775808:=ae;exact CS cq
     ·have HV:=Qh (show V=none by rw[hV,if_neg (fun h=>h63 h.2.2)]);have h0i:(0:Int) < n:=ae;have aac:decide ((n:Int)≤9223372036854775808)=false:=dU ae;clear hV hs;exact CS cq
    ·have HV:=Qh (show V=none by rw[hV,if_neg (fun h=>h0 h.2.1)]);have h0i:¬ (0:Int) < n:=ae;clear hV hs;exact CS cq
  ·rw[if_neg hc]at hV;have cq:=N6 (c::r) hs w;generalize lj (c::r)=q at *;obtain⟨n,b⟩:=q;simp only at hV cq;have ec:((c.toNat:Int) == 45)=false:=by
    refine C9 ?_;intro e;exact hc (nK.1 (show c.toNat=(45:UInt8).toNat by show c.toNat=45;omega))
   cases b with
   | false=>
    have HV:=Qh (show V=none by rw[hV,if_neg (fun h=>by cases h.1)]);clear hV hs hex;exact CS cq
   | true=>
    by_cases h63:n < 9223372036854775808
    ·have HV:=Qh (show V=some (n:Int)by rw[hV,if_pos ⟨rfl,h63⟩]);have aac:(n:Int) < 9223372036854775808:=ae;clear hV hs hex;exact CS cq
    ·have HV:=Qh (show V=none by rw[hV,if_neg (fun h=>h63 h.2)]);have aac:decide ((n:Int) < 9223372036854775808)=false:=dU ae;clear hV hs hex;exact CS cq
theorem Hf (T:List aw) (hT:mD T) (st:aF) (kr:Nat) (w:World) (h:bD w kr T st) :
  Calls prog 51 #[.pointer (some ⟨kr,0,none⟩)] w fun e w'=>wM kr w T (.string ⟨(st.run [] ee).1.toArray⟩) (st.run [] ee).2 e w':=by
 have bm:=hT.b.1.pos;have hlen:=hT.b.2.2;have cd:=ahD T hT st kr w h;have cf:=fun W hW=>EI T hT st kr W hW
 have cw:=fun W hW=>Hc 11 ah T hT st kr W hW
 obtain⟨R,hR⟩:∃ R,R=st.run [] ee:=⟨_,rfl⟩
 rw[← hR];have HR:=Qh h;have jk:=tU;cases hN:st.named with
 | false=>
  have HV:=Qh (show R=([],st.form)by
   rw[hR];cases st with
   | bad n l c=>rfl
   | ok ts=>
    unfold aF.run ee;simp only;rw[if_neg (by rw[show p8 ts=false from hN];decide)];rfl)
  rw[hN]at cd;clear hR hN h;go_enter func51,ntmps51
  go_wp2_with fail;refine aQ cd ?_;intro w1 hb;have cF:=cf w1 (HR.o.keep hb);have HO:=Qh (aA.of_below kr hb);clear cd cf cw hb;exact UG cF
 | true=>
  cases st with
  | bad n l c=>cases hN
  | ok ts=>
   obtain⟨i,hi,rfl,hr⟩:=h;have hN':p8 (T.drop i)=true:=hN;have HK:=Qh (YJ hN');have cn:=fun W hW=>nw T bm hlen i 0 0 0 kr W (gV hi) hW
   rw[pQ hi]at cn;unfold eG bZ at cn;rw[hN]at cd;have ahF:R=if (ax (T.drop i)).text.length≤64 then ((ax (T.drop i)).text,.ok (T.drop i).tail) else ([],(aF.ok (T.drop i)).ko 11):=by
    rw[hR];unfold aF.run ee;simp only;rw[if_pos hN'];by_cases oQ:(ax (T.drop i)).text.length≤64
    ·rw[if_pos oQ,if_pos oQ]
    ·rw[if_neg oQ,if_neg oQ];rfl
   have mX:=Qh ahF;have nX:=Qh hr;have hst:∀ W,eV W kr T i 0 0 0→bD (W.setCell ⟨kr,1,none⟩ (.int .i64 ((i:Int)+1))) kr T (.ok (T.drop i).tail):=fun W hW=>hW.step hT hi (by rw[HK.o];decide)
   have HST:=Qh hst;clear hR hN hN' hr ahF hst;generalize (ax (T.drop i)).text=X at *;go_enter func51,ntmps51
   go_wp2_with fail;refine zk cd ?_;intro w1 hb HO;have dY:=Qh (nX.o.keep hb);have cN:=cn w1 dY.o;clear cd cf hb cn;go_wp2_with fail;refine Lg cN ?_;intro w2 hb aU gi;clear cN hb;by_cases oQ:X.length≤64
   ·have HV:=Qh (show R=(X,.ok (T.drop i).tail)by rw[mX.o,if_pos oQ]);have ag3:¬ ((64:Int) < X.length):=ae;refine zf gi.o.cells ?_;intro v hc f1 r1;have HN:=Qh (HST.o _ gi.o);clear hc cw oQ;go_wp2_with fail;go_ret;rw[HV.o];exact⟨rfl,aU.o.set 1 _,HN.o⟩
   ·have HV:=Qh (show R=([],(aF.ok (T.drop i)).ko 11)by rw[mX.o,if_neg oQ]);have ag3:(64:Int) < X.length:=ae;have cW:=cw w2 (gi.o.AY hi);clear cw oQ;go_wp2_with fail;refine dF cW ?_;intro w3 ho hq;clear cW;exact Ht (aU.o.trans ho) hq
theorem KE (T:List aw) (hT:mD T) (st:aF) (kr:Nat) (w:World) (h:bD w kr T st) :
  Calls prog 48 #[.pointer (some ⟨kr,0,none⟩)] w fun e w'=>wM kr w T (.string ⟨(st.run eL (dJ 3)).1.text.toArray⟩) (st.run eL (dJ 3)).2 e w':=by
 have bm:=hT.b.1.pos;have hlen:=hT.b.2.2;have cf:=fun W hW=>EI T hT st kr W hW
 obtain⟨R,hR⟩:∃ R,R=st.run eL (dJ 3):=⟨_,rfl⟩
 rw[← hR];have HR:=Qh h;have hf0:=pC;have jk:=tU;cases st with
 | bad no l c=>
  have HV:=Qh (show R=(eL,.bad no l c)from hR);refine Lp h ?_;intro h0 i hi hr v hc f2 e0;have cF:=cf w HR.o;clear hR hr hc cf;go_enter func48,ntmps48
  go_wp2_with fail;refine dF cF ?_;intro w2 ho hq;clear cF;exact Ht ho hq
 | ok ts=>
  obtain⟨i,hi,rfl,hr⟩:=h;refine wV hr.cells ?_;intro v hc f2;have cn:=fun W hW=>nw T bm hlen i 0 0 0 kr W (gV hi) hW
  rw[pQ hi]at cn;unfold eG bZ at cn;have nX:=Qh hr;have cN:=cn w hr;clear hr hc;by_cases hk:(ax (T.drop i)).kind=3
  ·have HV:=Qh (show R=(ax (T.drop i),.ok (T.drop i).tail)by
    rw[hR];unfold aF.run dJ;simp only;rw[if_pos ⟨hk,ah⟩])
   have HST:=Qh (fun W (hW:eV W kr T i 0 0 0)=>hW.step hT hi qp);clear hR;rw[hk]at cN;go_enter func48,ntmps48
   go_wp2_with fail;refine zk cN ?_;intro w1 hb HO;have dY:=Qh (nX.o.keep hb);have pN:=cn w1 dY.o;clear cN hb cn f2 cf;go_wp2_with fail;refine Lg pN ?_;intro w2 hb aU gi;refine zf gi.o.cells ?_;intro v2 hc f1 r1;have HN:=Qh (HST.o _ gi.o);clear hc hb pN hk;go_wp2_with fail;go_ret;rw[HV.o];exact⟨rfl,aU.o.set 1 _,HN.o⟩
  ·have HV:=Qh (show R=(eL,(aF.ok (T.drop i)).form)by
    rw[hR];unfold aF.run dJ;simp only;rw[if_neg (fun h=>hk h.1)];rfl)
   have e0:=bN hk;clear hR cn;generalize (ax (T.drop i)).kind=K at *;go_enter func48,ntmps48
   go_wp2_with fail;refine zk cN ?_;intro w1 hb HO;have cF:=cf w1 (HR.o.keep hb);clear cN hb cf f2;exact UG cF
theorem ahG (below:Nat) (hbl:below < 18446744073709551616) (T:List aw) (hT:mD T) (st:aF) (kr:Nat) (w:World) (h:bD w kr T st) :
  Calls prog 107 #[.pointer (some ⟨kr,0,none⟩),.int .u64 below] w fun e w'=>wM kr w T (.int .u64 ((st.run 0 (gQ below)).1:Nat)) (st.run 0 (gQ below)).2 e w':=by
 have bm:=hT.b.1.pos;have hlen:=hT.b.2.2;have cf:=fun W hW=>EI T hT st kr W hW
 obtain⟨R,hR⟩:∃ R,R=st.run 0 (gQ below):=⟨_,rfl⟩
 rw[← hR];have HR:=Qh h;have hf0:=pC;have jk:=tU;have cw:=fun W hW=>Hc 8 ah T hT st kr W hW
 cases st with
 | bad no l c=>
  have HV:=Qh (show R=(0,.bad no l c)from hR);refine Lp h ?_;intro h0 i hi hr v hc f2 e0;have cF:=cf w HR.o;clear hR hr hc cf;go_enter func107,ntmps107
  go_wp2_with fail;refine dF cF ?_;intro w2 ho hq;clear cF;exact Ht ho hq
 | ok ts=>
  obtain⟨i,hi,rfl,hr⟩:=h;refine wV hr.cells ?_;intro v hc f2;have cn:=fun W hW=>nw T bm hlen i 0 0 0 kr W (gV hi) hW
  rw[pQ hi]at cn;unfold eG bZ at cn;have nX:=Qh hr;have cN:=cn w hr;have AK:=(hT.b.drop hi).head;clear hr hc;by_cases hk:(ax (T.drop i)).kind=2;case neg=>
   have HV:=Qh (show R=(0,(aF.ok (T.drop i)).form)by
    rw[hR];unfold aF.run gQ;simp only;rw[if_neg hk];rfl)
   have e0:=bN hk;clear hR cn;generalize (ax (T.drop i)).kind=K at *;go_enter func107,ntmps107
   go_wp2_with fail;refine zk cN ?_;intro w1 hb HO;have cF:=cf w1 (HR.o.keep hb);clear cN hb cf f2;exact UG cF
  case pos=>
   have Rx:=Qh (Ti (ax (T.drop i)).text);have hRv:R=if (ja (ax (T.drop i)).text).2=true∧(ja (ax (T.drop i)).text).1 < below then ((ja (ax (T.drop i)).text).1,.ok (T.drop i).tail) else (0,(aF.ok (T.drop i)).ko 8):=by
    rw[hR];unfold aF.run gQ;simp only;rw[if_pos hk];by_cases hc:(ja (ax (T.drop i)).text).2=true∧(ja (ax (T.drop i)).text).1 < below
    ·rw[if_pos hc,if_pos hc]
    ·rw[if_neg hc,if_neg hc];rfl
   have gC:=Qh hRv;have HST:=Qh (fun W (hW:eV W kr T i 0 0 0)=>hW.step hT hi qp);have cq:=fun W=>N6 (ax (T.drop i)).text AK W
   clear hR hRv AK;rw[hk]at cN;generalize (ax (T.drop i)).text=X at *;go_enter func107,ntmps107
   go_wp2_with fail;refine zk cN ?_;intro w1 hb HO;have dY:=Qh (nX.o.keep hb);have pN:=cn w1 dY.o;clear cN hb cn f2 cf;go_wp2_with fail;refine Lg pN ?_;intro w2 hb aU gi;clear hb pN hk;go_wp2_with fail;refine aQ (cq w2) ?_;intro w3 hb
   have lZ:=Qh (aU.o.trans (aA.of_below kr hb));have jN:=Qh (gi.o.keep hb);have Pq:=Qh (HST.o _ jN.o);refine zf jN.o.cells ?_;intro v3 hc f1 r1;have cW:=cw w3 (jN.o.AY hi);clear cq hb hc cw;generalize ja X=p at *;obtain⟨n,b⟩:=p;cases b with
   | false=>
    have hq:lj X=(0,false):=Rx.o;rw[hq];have HV:=Qh (show R=(0,(aF.ok (T.drop i)).ko 8)by rw[gC.o,if_neg (fun h=>by cases h.1)]);clear hq f1 r1;go_wp2_with fail;refine dF cW ?_;intro w4 ho hq;clear cW;exact Ht (lZ.o.trans ho) hq
   | true=>
    have hq:lj X=(n,true):=Rx.o;rw[hq];by_cases hlt:n < below
    ·have HV:=Qh (show R=(n,.ok (T.drop i).tail)by rw[gC.o,if_pos ⟨rfl,hlt⟩]);have Cp:¬ ((below:Int)≤n):=ae;have Kp:decide ((below:Int)≤(n:Int))=false:=dU Cp;clear hq cW;go_wp2_with fail;go_ret;exact U2
    ·have HV:=Qh (show R=(0,(aF.ok (T.drop i)).ko 8)by rw[gC.o,if_neg (fun h=>hlt h.2)]);have Cp:(below:Int)≤n:=ae;have Kp:decide ((below:Int)≤(n:Int))=true:=fy Cp;clear hq f1 r1;go_wp2_with fail;refine dF cW ?_;intro w4 ho hq;clear cW;exact Ht (lZ.o.trans ho) hq
theorem ar2 (st:aF):st.run (0,false) oF=(((st.run 0 (gQ 4294967296)).1 % 2147483648,decide (2147483648≤(st.run 0 (gQ 4294967296)).1)),(st.run 0 (gQ 4294967296)).2)∧(st.run 0 (gQ 4294967296)).1 < 4294967296:=by
 cases st with
 | bad n l c=>exact⟨rfl,by show(0:Nat) < 4294967296;decide⟩
 | ok ts=>
  cases hw:gQ 4294967296 ts with
  | ok n t=>
   have e1:(aF.ok ts).run 0 (gQ 4294967296)=(n,.ok t):=by
    refine nD ?_;rw[hw]
   have e2:(aF.ok ts).run (0,false) oF=((n % 2147483648,decide (2147483648≤n)),.ok t):=by
    unfold aF.run oF;simp only;rw[hw]
   rw[e1,e2];exact⟨rfl,Sz hw⟩
  | bad n l c=>
   have e1:(aF.ok ts).run 0 (gQ 4294967296)=(0,.bad n l c):=by
    refine nD ?_;rw[hw]
   have e2:(aF.ok ts).run (0,false) oF=((0,false),.bad n l c):=by
    unfold aF.run oF;simp only;rw[hw]
   rw[e1,e2];exact⟨rfl,by show(0:Nat) < 4294967296;decide⟩
theorem ar3 (n:Nat) (h:n < 4294967296):bits .andNot .u32 (n:Int) 2147483648=((n % 2147483648:Nat):Int):=by
 have h1:=u32_andNot_nat n 2147483648 h ah;rw[show((2147483648:Nat):Int)=2147483648 from rfl]at h1;rw[h1,show n &&& (4294967295 - 2147483648)=n % 2147483648 from Nat.and_two_pow_sub_one_eq_mod n 31]
theorem ahH (T:List aw) (hT:mD T) (st:aF) (kr:Nat) (w:World) (h:bD w kr T st) :
  Calls prog 106 #[.pointer (some ⟨kr,0,none⟩)] w fun e w'=>wM kr w T (.tuple #[.int .u32 ((st.run (0,false) oF).1.1:Nat),.bool (st.run (0,false) oF).1.2]) (st.run (0,false) oF).2 e w':=by
 have c:=ahG 4294967296 ah T hT st kr w h;rw[show((4294967296:Nat):Int)=4294967296 from rfl]at c;obtain⟨hrun,hlt⟩:=ar2 st;rw[hrun];generalize st.run 0 (gQ 4294967296)=q at *;obtain⟨n,st'⟩:=q;simp only at *;have aqN:=ar3 n hlt;have hcv:IntKind.u32.wrap (n:Int)=(n:Int):=Pz;have HD:decide ((2147483648:Int)≤(n:Int))=decide (2147483648≤n):=by
  by_cases h:2147483648≤n
  ·rw[fy h,fy ae]
  ·rw[dU h,dU ae]
 generalize decide (2147483648≤n)=D at *;generalize n % 2147483648=m at *;clear hrun h;go_enter func106,ntmps106
 go_wp2_with fail;refine dF c ?_;intro w1 ho hq;have HO:=Qh ho;have HQ:=Qh hq;clear c ho hq;go_wp2_with fail;go_ret2
 exact⟨rfl,HO.o,HQ.o⟩
def CA (s:List UInt8):Nat×Bool:=match s with
 | []=>(0,false)
 | c::r=>if c=109 then lj r else (0,false)
theorem ar4 (s:List UInt8) (hs:s.length≤1048576) (w:World) :
  Calls prog 179 #[.string ⟨s.toArray⟩] w fun e w'=>e=.returned (.tuple #[.int .u64 ((CA s).1:Nat),.bool (CA s).2])∧Below w.heap.size w w':=by
 obtain⟨V,hV⟩:∃ V,V=CA s:=⟨_,rfl⟩
 rw[← hV];unfold CA at hV;cases s with
 | nil=>
  have HV:=Qh hV;clear hV;go_enter func179,ntmps179
  exact EV
 | cons c r=>
  simp only at hV;have fZ:((⟨(c::r).toArray⟩:ByteArray)[0]'(by show 0 < (c::r).length;simp))=c:=rfl;cases r with
  | nil=>
   have HV:=Qh (show V=(0,false)by
    rw[hV];split
    ·rfl
    ·rfl)
   clear hV;go_enter func179,ntmps179
   exact EV
  | cons d r=>
   have hex:(⟨(c::d::r).toArray⟩:ByteArray).extract 1 (r.length+1+1)=⟨(d::r).toArray⟩:=ahE c (d::r);have hl2:¬ (((c::d::r).length:Int) < 2):=(by simp only[dz];omega);have hl3:¬ ((r.length:Int)+1+1 < 2):=ae;by_cases hc:c=109
   ·subst hc;rw[if_pos rfl]at hV;have cq:=N6 (d::r) (by simp only[dz]at hs ⊢;omega) w;rw[← hV]at cq;have hcb:((109:UInt8).toNat:Int)=109:=rfl;have HV:=Qh hV;obtain⟨x,y⟩:=V;clear hV;go_enter func179,ntmps179
    go_wp2_with fail;refine qT cq ?_;clear cq;intro w1 HB;go_wp2_with fail;go_ret2
    exact⟨rfl,HB.o⟩
   ·rw[if_neg hc]at hV;have HV:=Qh hV;have ec:((c.toNat:Int) == 109)=false:=by
     refine C9 ?_;intro e;exact hc (nK.1 (show c.toNat=(109:UInt8).toNat by show c.toNat=109;omega))
    clear hV hex;go_enter func179,ntmps179
    exact EV
theorem ar5 (s:List UInt8):CA s=if Lib.hasPrefix s [109]=true∧(ja (Lib.trimPrefix s [109])).2=true then ((ja (Lib.trimPrefix s [109])).1,true) else (0,false):=by
 cases s with
 | nil=>rfl
 | cons c r=>
  unfold CA;simp only;by_cases hc:c=109
  ·subst hc;have h1:Lib.hasPrefix (109::r) [109]=true:=(by unfold Lib.hasPrefix;simp[List.isPrefixOf]);have h2:Lib.trimPrefix (109::r) [109]=r:=(by unfold Lib.trimPrefix;rw[if_pos h1];rfl);rw[if_pos rfl,h1,h2,Ti];generalize ja r=q;obtain⟨n,b⟩:=q;cases b<;>simp
  ·have h1:Lib.hasPrefix (c::r) [109]=false:=by
    unfold Lib.hasPrefix;simp only[List.isPrefixOf,Bool.and_true];exact bN (Ne.symm hc)
   rw[if_neg hc,h1,if_neg (fun h=>by cases h.1)]
theorem ar6 (T:List aw) (hT:mD T) (st:aF) (kr:Nat) (w:World) (h:bD w kr T st) :
  Calls prog 158 #[.pointer (some ⟨kr,0,none⟩)] w fun e w'=>wM kr w T (.tuple #[.int .i64 (st.run (0,0) p9).1.1,.int .u64 ((st.run (0,0) p9).1.2:Nat)]) (st.run (0,0) p9).2 e w':=by
 have bm:=hT.b.1.pos;have hlen:=hT.b.2.2;have cf:=fun W hW=>EI T hT st kr W hW
 obtain⟨R,hR⟩:∃ R,R=st.run (0,0) p9:=⟨_,rfl⟩
 rw[← hR];have HR:=Qh h;have hf0:=pC;have jk:=tU;cases st with
 | bad no l c=>
  have HV:=Qh (show R=((0,0),.bad no l c)from hR);refine Lp h ?_;intro h0 i hi hr v hc f2 e0;clear hR hr hc;go_enter func158,ntmps158
  go_wp2_with fail;have aU:=Qh (aA.of_below kr (aC w.heap.size w));have HQ:=HR;go_ret2
  rw[HV.o];exact⟨rfl,aU.o,HQ.o⟩
 | ok ts=>
  obtain⟨i,hi,rfl,hr⟩:=h;refine wV hr.cells ?_;intro v hc f2;have cn:=fun W hW=>nw T bm hlen i 0 0 0 kr W (gV hi) hW
  rw[pQ hi]at cn;unfold eG bZ at cn;have nX:=Qh hr;have cN:=cn w hr;have AK:=(hT.b.drop hi).head;clear hr hc;by_cases hk:(ax (T.drop i)).kind=1;case neg=>
   have HV:=Qh (show R=((0,0),(aF.ok (T.drop i)))by
    rw[hR];unfold aF.run p9;simp only;rw[if_neg hk];try rfl)
   have e0:=bN hk;clear hR cn;generalize (ax (T.drop i)).kind=K at *;go_enter func158,ntmps158
   go_wp2_with fail;refine zk cN ?_;intro w1 hb HO;have cF:=cf w1 (HR.o.keep hb);have aU:=HO;have HQ:=Qh (HR.o.keep hb);clear cN hb cf f2 cF;go_wp2_with fail;go_ret2
   rw[HV.o];exact⟨rfl,aU.o,HQ.o⟩
  case pos=>
   have Er:=Qh (ar5 (ax (T.drop i)).text);have hRv:R=if (ax (T.drop i)).text=[77] then ((1,0),.ok (T.drop i).tail) else if Lib.hasPrefix (ax (T.drop i)).text [109]=true∧(ja (Lib.trimPrefix (ax (T.drop i)).text [109])).2=true then ((2,(ja (Lib.trimPrefix (ax (T.drop i)).text [109])).1),.ok (T.drop i).tail) else ((0,0),(aF.ok (T.drop i)).form):=by
    rw[hR];unfold aF.run p9;simp only;rw[if_pos hk];by_cases hc:(ax (T.drop i)).text=[77]
    ·rw[if_pos hc,if_pos hc]
    ·rw[if_neg hc,if_neg hc];by_cases hd:Lib.hasPrefix (ax (T.drop i)).text [109]=true∧(ja (Lib.trimPrefix (ax (T.drop i)).text [109])).2=true
     ·rw[if_pos hd,if_pos hd]
     ·rw[if_neg hd,if_neg hd];rfl
   have gC:=Qh hRv;have HST:=Qh (fun W (hW:eV W kr T i 0 0 0)=>hW.step hT hi qp);have cq:=fun W=>ar4 (ax (T.drop i)).text AK W
   have HM:=Qh (YG (ax (T.drop i)).text [77]);clear hR hRv AK;rw[hk]at cN;generalize (ax (T.drop i)).text=X at *;go_enter func158,ntmps158
   go_wp2_with fail;refine zk cN ?_;intro w1 hb HO;have dY:=Qh (nX.o.keep hb);have pN:=cn w1 dY.o;clear cN hb cn f2;go_wp2_with fail;refine Lg pN ?_;intro w2 hb aU gi;clear hb pN hk;go_wp2_with fail;refine aQ (cq w2) ?_;intro w3 hb
   have lZ:=Qh (aU.o.trans (aA.of_below kr hb));have jN:=Qh (gi.o.keep hb);have Pq:=Qh (HST.o _ jN.o);refine zf jN.o.cells ?_;intro v3 hc f1 r1;have cF:=cf w3 (jN.o.AY hi);clear cq hb hc cf;by_cases hm:X=[77]
   ·have HV:=Qh (show R=((1,0),.ok (T.drop i).tail)by rw[gC.o,if_pos hm]);generalize CA X=q at *;obtain⟨n,b⟩:=q;subst hm;clear cF;go_wp2_with fail;go_ret2
    exact U2
   ·have em:=bN hm;have hmb:¬ (⟨X.toArray⟩:ByteArray)=⟨#[77]⟩:=fun e=>hm (HM.o.1 e)
    by_cases hp:Lib.hasPrefix X [109]=true∧(ja (Lib.trimPrefix X [109])).2=true
    ·have HV:=Qh (show R=((2,(ja (Lib.trimPrefix X [109])).1),.ok (T.drop i).tail)by rw[gC.o,if_neg hm,if_pos hp]);have hq:CA X=((ja (Lib.trimPrefix X [109])).1,true):=(by rw[Er.o,if_pos hp]);rw[hq];generalize (ja (Lib.trimPrefix X [109])).1=n at *;clear hq hp cF;go_wp2_with fail;go_ret2
     exact U2
    ·have HV:=Qh (show R=((0,0),(aF.ok (T.drop i)).form)by rw[gC.o,if_neg hm,if_neg hp]);have hq:CA X=(0,false):=(by rw[Er.o,if_neg hp]);rw[hq];clear hq hp f1 r1;go_wp2_with fail;refine dF cF ?_;intro w4 ho hq;have ny:=Qh (lZ.o.trans ho);have HQ:=Qh hq;clear cF ho hq;go_wp2_with fail;go_ret2
     rw[HV.o];exact⟨rfl,ny.o,HQ.o⟩
end Go.Proofs.YtfflljgnpfldfaaGreatDoor
