/-
  Blocks of the call's own (boxed structs) and what stays of them behind calls.
-/
import Derived.Lib.Hide
import Derived.WalkKit
import Derived.WalkSpells
import Derived.WalkLawsBesides
import Derived.ProofKit
import Derived.OpenShut
import Derived.SizedLaws
import Derived.Deep.CondSized
import Derived.Deep.Slices
import Derived.Deep.RegionLaw
set_option maxHeartbeats 128000000
set_option linter.unusedVariables false
namespace Go.Proofs.YtkblpaabknjckaaGreatDoor
theorem Qh {p : Prop} (h : p) : RowKit.Hid p := Lib.hid h
theorem lrf {n : Nat} : n ≤ n := Nat.le_refl n
theorem gE {α : Type} {a : Array α} {i : Nat} {x : α} (h : a[i]? = some x) : i < a.size := (Array.getElem?_eq_some_iff.1 h).1
theorem bN {α : Type} [BEq α] [LawfulBEq α] {a b : α} (h : a ≠ b) : (a == b) = false := beq_eq_false_iff_ne.2 h
open Go.ChangeShapes Go.WideShapes Go.ChangeAt Go.RowKit
theorem trodAll_below {H:Type} {enc:TypeId×Value→H} {P:Program} (hl:laidOutB P=true) {W W':World} (hb:Below W.heap.size W W') :
  ∀ {ts:List TypeId} {vs:List Value} {ds:List (DataW H)} {ps:List MemPlace},(∀ t∈ts,P.readableRec t=true∧t < P.types.size) →
   DataW.TrodAll enc P W 0 (fun _=>true) true ts vs ds ps→(∀ x∈ps,x.block < W.heap.size) →
   DataW.TrodAll enc P W' 0 (fun b=>decide (b < W.heap.size)) true ts vs ds ps
 | [],[],[],_,_,h,_=>h
 | t::ts,v::vs,d::ds,ps,hr,h,hlt=>by
  obtain⟨p,q,h1,h2,rfl⟩:=h;exact⟨p,q,Below.trod hl (hr t (by simp)).1 (hr t (by simp)).2 h1 hb (fun x hx=>hlt x (by simp[hx])),
   trodAll_below hl hb (fun t ht=>hr t (by simp[ht])) h2 (fun x hx=>hlt x (by simp[hx])),rfl⟩
 | [],[],_::_,_,_,h,_=>h.elim
 | [],_::_,_,_,_,h,_=>h.elim
 | _::_,[],_,_,_,h,_=>h.elim
 | _::_,_::_,[],_,_,h,_=>h.elim
theorem law_post {H:Type} {enc:TypeId×Value→H} {P:Program} {f:Func} {s:ChangeSpec} {W W':World} {args:Array Value} {ds gs:List (DataW H)} {before:List MemPlace} {tb:TypeId}
  (hl:laidOutB P=true) (hr:∀ t∈f.params.toList,P.readableRec t=true∧t < P.types.size) (hres:f.resultTypes=#[tb]) (htb:P.underlying tb=some .bool)
  (hvars:s.vars=[]) (hfn:∀ l:List (DataW H),l.length=f.params.size→s.fn H l = { results:=[.lit (.bool true)],args:=l })
  (hW:DataW.Whole enc P f.params.toList s.vars false W args.toList ds gs before) (hb:Below W.heap.size W W') :
  s.post enc P f false true false false W args (.bool true) W':=by
 have hW':=hW;obtain⟨p,q,hA,hV,rfl,hfz,hnd⟩:=hW;rw[hvars]at hV;obtain⟨rfl,rfl⟩:=trodVars_none hV;have hlen:ds.length=f.params.size:=by
  have:∀ {ts:List TypeId} {vs:List Value} {ds:List (DataW H)} {ps:List MemPlace},DataW.TrodAll enc P W 0 (fun _=>true) true ts vs ds ps→ds.length=ts.length:=by
   intro ts
   induction ts with
   | nil=>intro vs ds ps h;cases vs<;>cases ds<;>first|rfl|exact h.elim
   | cons t ts ih=>
    intro vs ds ps h;cases vs with
    | nil=>exact h.elim
    | cons v vs=>
     cases ds with
     | nil=>exact h.elim
     | cons d ds=>obtain⟨p,q,_,h2,_⟩:=h;simp[ih h2]
  simpa using this hA
 have e1:s.fn H (ds++[]) = { results:=[.lit (.bool true)],args:=ds }:=(by rw[List.append_nil];exact hfn ds hlen);refine⟨ds,[],p++[],[],p,[],hW',?_,?_,?_,?_,fun h=>by cases h⟩
 ·rw[e1,hres];exact trodAll_cons_mk (shut_bool htb true) trodAll_mk0
 ·rw[e1];exact trodAll_below hl hb hr hA (fun x hx=>hW'.lt x (by simp[hx]))
 ·rw[e1,hvars];rfl
 ·exact hb.frame _
def enBool (b:Bool):List Value:=[.bool b]
def enInt (k:IntKind) (n:Int):List Value:=[.int k n]
def enStr (s:ByteArray):List Value:=[.string s]
structure Sl (w:World) (a:Option Addr) (n cap size:Nat) (cs:List Value):Prop where
 len:cs.length=n*size
 le:n≤cap
 max:cap≤maxLen
 nil:a=none→cap=0
 at':∀ j,j < cs.length→∃ b o,a=some ⟨b,o,none⟩∧w.cell? ⟨b,o+j,none⟩=cs[j]?
theorem Sl.addr {w:World} {a:Option Addr} {n cap size:Nat} {cs:List Value} (h:Sl w a n cap size cs) (hn:0 < n) (hs:0 < size) :
  ∃ b o,a=some ⟨b,o,none⟩∧b < w.heap.size∧∀ j,j < n*size→w.cell? ⟨b,o+j,none⟩=cs[j]?:=by
 have hp:0 < n*size:=Nat.mul_pos hn hs;obtain⟨b,o,rfl,h0⟩:=h.at' 0 (by rw[h.len];exact hp);refine⟨b,o,rfl,?_,fun j hj=>?_⟩
 ·rw[List.getElem?_eq_getElem (by rw[h.len];exact hp)]at h0;exact World.block_lt_of_cell? w _ h0
 ·obtain⟨b',o',e,h1⟩:=h.at' j (by rw[h.len];exact hj);simp only[Option.some.injEq,Addr.mk.injEq]at e;obtain⟨rfl,rfl,_⟩:=e;exact h1
theorem Sl.keep {w w':World} {a:Option Addr} {n cap size:Nat} {cs:List Value} (h:Sl w a n cap size cs) (hb:Below w.heap.size w w'):Sl w' a n cap size cs:=
 ⟨h.len,h.le,h.max,h.nil,fun j hj=>by
  obtain⟨b,o,e,h1⟩:=h.at' j hj;refine⟨b,o,e,?_⟩;rw[hb.cell (p:=⟨b,o+j,none⟩) ?_]
  ·exact h1
  ·rw[List.getElem?_eq_getElem hj]at h1;exact World.block_lt_of_cell? w _ h1⟩
theorem Sl.mk0 (w:World) (size:Nat):Sl w none 0 0 size []:=⟨by simp,by simp,by simp[maxLen],fun _=>rfl,fun j hj=>by simp at hj⟩
theorem Sl.of_owns {w:World} {base:Nat} {e:TypeId} {size:Nat} {a:Option Addr} {n n' cap:Nat} {xs:List Value} (h:w.ownsRow base e size (.slice a n cap) n' xs):n=n'∧Sl w a n cap size xs:=by
 rcases h.2 with ⟨hv,rfl⟩|⟨g,cap',cur,hv,_,hg,hle,hmx,hsz,htk⟩
 ·cases hv
  have:xs=[]:=by simpa using h.1
  subst this;exact⟨rfl,Sl.mk0 w size⟩
 ·cases hv
  refine⟨rfl,h.1,hle,hmx,fun e=>by simp at e,fun j hj=>⟨g,0,rfl,?_⟩⟩;have:=h.cells (g:=g) rfl j (xs[j]) (List.getElem?_eq_getElem hj);rw[Addr.add_lit]at this;rw[this,List.getElem?_eq_getElem hj]
theorem owns_shape {w:World} {base:Nat} {e:TypeId} {size:Nat} {v:Value} {n:Nat} {xs:List Value} (h:w.ownsRow base e size v n xs):∃ a cap,v=.slice a n cap:=by
 rcases h.2 with ⟨hv,rfl⟩|⟨g,cap',cur,hv,_⟩
 ·exact⟨_,_,hv⟩
 ·exact⟨_,_,hv⟩
theorem flatMap_length {α:Type} {en:α→List Value} {size:Nat} (h:∀ a,(en a).length=size) (xs:List α):(xs.flatMap en).length=xs.length*size:=by
 induction xs with
 | nil=>simp
 | cons x xs ih=>simp[ih,h,Nat.add_mul,Nat.add_comm]
theorem flatMap_get {α:Type} {en:α→List Value} {size:Nat} (h:∀ a,(en a).length=size) (xs:List α) (i:Nat) (hi:i < xs.length) (j:Nat) (hj:j < size) :
  (xs.flatMap en)[i*size+j]? = (en xs[i])[j]?:=by
 induction xs generalizing i with
 | nil=>simp at hi
 | cons x xs ih=>
  cases i with
  | zero=>simp[List.getElem?_append_left (show j < (en x).length by rw[h];exact hj)]
  | succ i=>
   rw[List.flatMap_cons,List.getElem?_append_right (by rw[h,Nat.add_mul];omega),h];have:=ih i (by simpa using hi);rw[show(i+1)*size+j - size=i*size+j by rw[Nat.add_mul];omega]
   simpa using this
structure SlTy (P:Program) (t e:TypeId) (size bytes:Nat):Prop where
 under:P.underlying t=some (.slice e)
 ex:∃ i z,P.info? e=some i∧i.zero=some z∧i.size=size∧i.bytes=bytes∧z.cells.size=size
 pos:0 < size
 bpos:0 < bytes
theorem SlTy.mk' {P:Program} {t e:TypeId} {size bytes:Nat} (z:Value) (h:P.underlying t=some (.slice e)) (hi:(P.info? e).map (fun i=>(i.zero,i.size,i.bytes))=some (some z,size,bytes))
  (hz:z.cells.size=size) (hp:0 < size) (hb:0 < bytes):SlTy P t e size bytes:=by
 obtain⟨i,h1,h2,h3,h4⟩:=info_parts hi;exact⟨h,⟨i,z,h1,h2,h3,h4,hz⟩,hp,hb⟩
def SlOf {α:Type} (w:World) (en:α→List Value) (size:Nat) (a:Option Addr) (cap:Nat) (xs:List α):Prop:=Sl w a xs.length cap size (xs.flatMap en)
def Owns {α:Type} (w:World) (base:Nat) (e:TypeId) (size:Nat) (en:α→List Value) (v:Value) (xs:List α):Prop:=w.ownsRow base e size v xs.length (xs.flatMap en)
theorem Owns.nil {α:Type} (w:World) (base:Nat) (e:TypeId) (size:Nat) (en:α→List Value):Owns w base e size en (.slice none 0 0) []:=World.ownsRow_nil w base e size
theorem Owns.sl {α:Type} {w:World} {base:Nat} {e:TypeId} {size:Nat} {en:α→List Value} {a:Option Addr} {n cap:Nat} {xs:List α} (h:Owns w base e size en (.slice a n cap) xs):n=xs.length∧SlOf w en size a cap xs:=by
 obtain⟨rfl,h2⟩:=Sl.of_owns h;exact⟨rfl,h2⟩
theorem Owns.shape {α:Type} {w:World} {base:Nat} {e:TypeId} {size:Nat} {en:α→List Value} {v:Value} {xs:List α} (h:Owns w base e size en v xs):∃ a cap,v=.slice a xs.length cap∧SlOf w en size a cap xs:=by
 obtain⟨a,cap,rfl⟩:=owns_shape h;exact⟨a,cap,rfl,(Sl.of_owns h).2⟩
theorem Owns.block {α:Type} {w:World} {base:Nat} {e:TypeId} {size:Nat} {en:α→List Value} {v:Value} {xs:List α} (h:Owns w base e size en v xs) (hne:0 < xs.length) :
  ∃ g cap,v=.slice (some ⟨g,0,none⟩) xs.length cap∧base≤g∧g < w.heap.size∧xs.length≤cap∧cap≤9223372036854775807:=by
 rcases h.2 with ⟨hv,h0⟩|⟨g,cap,cur,hv,hb,hg,hle,hm,_⟩
 ·omega
 ·exact⟨g,cap,hv,hb,(gE hg),hle,by unfold maxLen at hm;omega⟩
theorem Owns.alloc {α:Type} {w:World} {base:Nat} {e:TypeId} {size:Nat} {en:α→List Value} {v:Value} {xs:List α} (h:Owns w base e size en v xs) (o:Obj):Owns (w.alloc o) base e size en v xs:=World.ownsRow.alloc h o
theorem Owns.keep {α:Type} {w w':World} {base:Nat} {e:TypeId} {size:Nat} {en:α→List Value} {v:Value} {xs:List α} (h:Owns w base e size en v xs) {B:Nat} (hb:Below B w w') (hB:w.heap.size≤B):Owns w' base e size en v xs:=
 World.ownsRow.kept (row:=none) h ⟨hb.os,hb.tape,hb.output,hb.size,fun k hk _=>hb.block k (by omega)⟩ (by cases hv:v.ownBlock<;>simp)
theorem SlOf.keep {α:Type} {w w':World} {en:α→List Value} {size:Nat} {a:Option Addr} {cap:Nat} {xs:List α} (h:SlOf w en size a cap xs) {B:Nat} (hb:Below B w w') (hB:w.heap.size≤B):SlOf w' en size a cap xs:=
 Sl.keep h (hb.mono hB)
theorem SlOf.len {α:Type} {w:World} {en:α→List Value} {size:Nat} {a:Option Addr} {cap:Nat} {xs:List α} (h:SlOf w en size a cap xs):xs.length≤cap∧xs.length≤9223372036854775807∧cap≤9223372036854775807:=by
 have h1:=h.le;have h2:=h.max;unfold maxLen at h2;omega
theorem SlOf.cells {α:Type} {w:World} {en:α→List Value} {size:Nat} {a:Option Addr} {cap:Nat} {xs:List α} (h:SlOf w en size a cap xs) (hen:∀ x,(en x).length=size) (hs:0 < size) {k:Nat} (hk:k < xs.length) :
  ∃ b o,a=some ⟨b,o,none⟩∧b < w.heap.size∧∀ j,j < size→w.cell? ⟨b,o+(k*size+j),none⟩=(en xs[k])[j]?:=by
 obtain⟨b,o,rfl,hb,hc⟩:=Sl.addr h (by omega) hs;refine⟨b,o,rfl,hb,fun j hj=>?_⟩;have:k*size+j < xs.length*size:=by
  have:(k+1)*size≤xs.length*size:=Nat.mul_le_mul_right _ hk;rw[Nat.add_mul]at this;omega
 rw[hc _ this];exact flatMap_get hen xs k hk j hj
theorem SlOf.cell1 {α:Type} {w:World} {en:α→List Value} {a:Option Addr} {cap:Nat} {xs:List α} (h:SlOf w en 1 a cap xs) (f:α→Value) (hen:∀ x,en x=[f x]) {k:Nat} (hk:k < xs.length) :
  ∃ b o,a=some ⟨b,o,none⟩∧b < w.heap.size∧w.cell? ⟨b,o+k,none⟩=some (f xs[k]):=by
 obtain⟨b,o,rfl,hb,hc⟩:=h.cells (fun x=>by rw[hen];rfl) (by omega) hk;refine⟨b,o,rfl,hb,?_⟩;have:=hc 0 (by omega);rw[hen]at this
 simpa using this
theorem SlOf.nil {α:Type} (w:World) (en:α→List Value) (size:Nat):SlOf w en size none 0 []:=Sl.mk0 w size
theorem SlOf.lit {α:Type} (w:World) (en:α→List Value) (size:Nat) (hen:∀ x,(en x).length=size) (xs:List α) (cells:Array Value) (ty:TypeId) (n:Nat) (hc:cells.toList=xs.flatMap en) (hn:xs.length=n) (hm:n≤maxLen) :
  SlOf (w.alloc (.cells cells ty)) en size (some ⟨w.heap.size,0,none⟩) n xs:=
 ⟨flatMap_length hen xs,by omega,hm,fun h=>by simp at h,fun j hj=>⟨w.heap.size,0,rfl,by
  rw[Nat.zero_add,cell_of_row _ _ _ cells ty (0,0) (heap_alloc_new w _),← hc];simp⟩⟩
theorem Owns.free {α:Type} {w:World} {base:Nat} {e:TypeId} {size:Nat} {en:α→List Value} {g n cap:Nat} {xs:List α} (h:Owns w base e size en (.slice (some ⟨g,0,none⟩) n cap) xs) (k:Nat):w.frozen? ⟨g,k,none⟩=false:=by
 rcases h.2 with ⟨hv,_⟩|⟨g',cap',cur,hv,_,hg,_⟩
 ·cases hv
 ·cases hv
  simp[World.frozen?,hg]
theorem Owns.lit {α:Type} (w:World) (base:Nat) (en:α→List Value) (size:Nat) (hen:∀ x,(en x).length=size) (xs:List α) (cells:Array Value) (ty:TypeId) (n:Nat) (hc:cells.toList=xs.flatMap en) (hn:xs.length=n) (hm:n≤maxLen) (hb:base≤w.heap.size) :
  Owns (w.alloc (.cells cells ty)) base ty size en (.slice (some ⟨w.heap.size,0,none⟩) n n) xs:=by
 subst hn;refine⟨flatMap_length hen xs,.inr ⟨w.heap.size,xs.length,cells,rfl,hb,heap_alloc_new w _,lrf,hm,?_,?_⟩⟩
 ·rw[← Array.length_toList,hc,flatMap_length hen]
 ·rw[hc,List.take_of_length_le (by rw[flatMap_length hen];exact lrf)]
theorem bstep {B:Nat} {w w1 w2:World} (h1:Below B w w1) (h2:Below w1.heap.size w1 w2) (hB:B≤w.heap.size):Below B w w2:=
 h1.trans (h2.mono (Nat.le_trans hB h1.size))
theorem append_block {P:Program} {w:World} {base:Nat} {t ty e:TypeId} {i:TypeInfo} {z:Value} (ht:P.underlying t=some (.slice e)) (hi:P.info? e=some i) (hz:i.zero=some z)
  {v:Value} {n:Nat} {xs:List Value} (hown:w.ownsRow base e i.size v n xs) {a:Addr} {m c:Nat} {news:List Value} (hl:news.length=m*i.size)
  (hnews:∀ j u,news[j]? = some u→w.cell? (a.add j)=some u) (h1:∀ u∈news,u.oneCell' = true) (hm:0 < m) (h63:n+m≤maxLen) (hbytes:(n+m)*i.bytes≤140737488355328)
  {v':Value} {w':World} (hr:(Builtin.append_ #[t,t] ty #[v,.slice (some a) m c]).run P w=.ok v' w'):∀ k,v'.ownBlock=some k→v.ownBlock=some k∨w.heap.size≤k:=by
 have hsmall:n+m≤9223372036854775807:=(by simp only[maxLen]at h63;omega);rcases hown.2 with ⟨rfl,rfl⟩|⟨g,cap,cur,rfl,hbg,hg,hnc,hcm,hcs,htake⟩
 ·have hr2:=run_append_nil (P:=P) w t ty e i z ht hi hz a m c news hl hnews (by omega) (by omega) (by have hb:=hbytes;simp only[Nat.zero_add]at hb;omega);rw[hr2]at hr;cases hr
  intro k hk;simp[Value.ownBlock]at hk;omega
 ·by_cases hroom:n+m≤cap
  ·have hfit:n*i.size+news.length≤cur.size:=(by rw[hl,hcs,← Nat.add_mul];exact Nat.mul_le_mul_right _ hroom);have hr2:=run_append_room (P:=P) w t ty e i ht hi g n cap cur hg a m c news hl hnews h1 hroom hfit;rw[hr2]at hr;cases hr
   intro k hk;exact .inl hk
  ·have holds:∀ j u,xs[j]? = some u→w.cell? ((⟨g,0,none⟩:Addr).add j)=some u:=hown.cells (g:=g) rfl;have hr2:=run_append_grow (P:=P) w t ty e i z ht hi hz ⟨g,0,none⟩ n cap xs hown.1 holds a m c news hl hnews (by omega) (by omega) (growslice_fits (by omega) hbytes);rw[hr2]at hr;cases hr
   intro k hk;simp[Value.ownBlock]at hk;omega
def Apart (u v:Value):Prop:=∀ k,u.ownBlock=some k→v.ownBlock=some k→False
theorem Owns.lt {α:Type} {w:World} {base:Nat} {e:TypeId} {size:Nat} {en:α→List Value} {v:Value} {xs:List α} (h:Owns w base e size en v xs):∀ k,v.ownBlock=some k→base≤k∧k < w.heap.size:=World.ownsRow.lt h
theorem Owns.other {α:Type} {w w1:World} {base:Nat} {e:TypeId} {size:Nat} {en:α→List Value} {u v:Value} {xs:List α} (h:Owns w base e size en u xs) (hg:w.grownBy w1 v.ownBlock) (ha:Apart v u):Owns w1 base e size en u xs:=by
 refine World.ownsRow.kept h hg ?_;cases hu:u.ownBlock with
 | none=>exact .inl rfl
 | some k=>exact .inr fun e=>ha k e.symm hu
theorem wpList_append_elem3 {α:Type} {en:α→List Value} {P:Program} {w0 wr:World} {ops:Array Oper} {rest:List Oper} {o:Oper} {a:Act} {Q:Exit→Act→World→Prop} {s x:Operand}
  {t e:TypeId} {size bytes:Nat} (T:SlTy P t e size bytes) {base:Nat} {v:Value} (xs:List α) (y:α) {cells:Array Value} {ty:TypeId}
  (hown:Owns wr base e size en v xs) (hbel:Below base w0 wr) (hbase:base≤w0.heap.size) (hbound:(xs.length+1)*bytes≤140737488355328)
  (h:∀ v' w1,Owns w1 base e size en v' (xs++[y])→Below base w0 w1→wr.grownBy w1 v.ownBlock→(∀ k,v'.ownBlock=some k→v.ownBlock=some k∨wr.heap.size≤k)→wpList P ops Q rest (a.put o.dst v') w1)
  (hgd:o.guard=none:=by rfl) (ho:o.op=.call { callee:=.builtin .append,args:=#[s,x],argTypes:=#[t,t] }:=by rfl)
  (hs:a.eval s=v:=by rfl) (hx:a.eval x=.slice (some ⟨wr.heap.size,0,none⟩) 1 1:=by rfl)
  (hy:cells.toList=en y:=by rfl) (hlen:(en y).length=size:=by rfl) (hone:∀ u∈en y,u.oneCell' = true:=by simp[enBool,enInt,enStr,Value.oneCell']) :
  wpList P ops Q (o::rest) a (wr.alloc (.cells cells ty)):=by
 obtain⟨hu,⟨i,z,hi,hz,h1,h2,h3⟩,hp,hbp⟩:=T;subst h1;subst h2;have hsz:=hbel.size;have hn:xs.length+1≤maxLen:=by
  have:(xs.length+1)*1≤(xs.length+1)*i.bytes:=Nat.mul_le_mul_left _ hbp;unfold maxLen;omega
 have hnews:∀ j u,(en y)[j]? = some u→(wr.alloc (.cells cells ty)).cell? ((⟨wr.heap.size,0,none⟩:Addr).add j)=some u:=by
  intro j u hu;rw[Addr.add_lit,Nat.zero_add,cell_of_row _ _ _ cells ty (0,0) (heap_alloc_new wr _)];rw[← hu,← hy];simp
 have hl:(en y).length=1*i.size:=(by rw[hlen];omega);refine wpList_plain hgd fun K hK=>?_
 obtain⟨v',w',hr,g1,g2,_⟩:=run_append_own (P:=P) (wr.alloc (.cells cells ty)) base t o.type e i z i.size i.bytes hu hi hz rfl rfl h3 hp v xs.length (xs.flatMap en) (World.ownsRow.alloc hown _) ⟨wr.heap.size,0,none⟩ 1 1 (en y) hl hnews hone hn hbound (by simp;omega);have hblk:=append_block hu hi hz (World.ownsRow.alloc hown _) hl hnews hone (by omega) hn hbound hr;unfold Oper.wp execOp;simp only[ho,resolve,invoke,builtin,Sem.run_bind,Sem.run_pure,Result.andThen_ok,List.map_toArray,List.map_cons,List.map_nil,hs,hx,hr];refine hK _ _ (h v' w' ?_ ?_ ?_ ?_)
 ·unfold Owns;rw[List.length_append,List.flatMap_append]
  simpa using g1
 ·exact(hbel.alloc (by omega) _).grown g2 (by simp;omega) (fun k hk=>(World.ownsRow.lt hown k hk).1)
 ·exact⟨g2.os,g2.tape,g2.output,Nat.le_trans (by simp) g2.size,fun k hk hne=>(g2.block k (by simp;omega) hne).trans (Below.heap_alloc wr _ k hk)⟩
 ·intro k hk;rcases hblk k hk with h5|h5
  ·exact .inl h5
  ·simp at h5;exact .inr (by omega)
theorem wpList_append_elem {α:Type} {en:α→List Value} {P:Program} {w0 wr:World} {ops:Array Oper} {rest:List Oper} {o:Oper} {a:Act} {Q:Exit→Act→World→Prop} {s x:Operand}
  {t e:TypeId} {size bytes:Nat} (T:SlTy P t e size bytes) {base:Nat} {v:Value} (xs:List α) (y:α) {cells:Array Value} {ty:TypeId}
  (hown:Owns wr base e size en v xs) (hbel:Below base w0 wr) (hbase:base≤w0.heap.size) (hbound:(xs.length+1)*bytes≤140737488355328)
  (h:∀ v' w1,Owns w1 base e size en v' (xs++[y])→Below base w0 w1→wpList P ops Q rest (a.put o.dst v') w1)
  (hgd:o.guard=none:=by rfl) (ho:o.op=.call { callee:=.builtin .append,args:=#[s,x],argTypes:=#[t,t] }:=by rfl)
  (hs:a.eval s=v:=by rfl) (hx:a.eval x=.slice (some ⟨wr.heap.size,0,none⟩) 1 1:=by rfl)
  (hy:cells.toList=en y:=by rfl) (hlen:(en y).length=size:=by rfl) (hone:∀ u∈en y,u.oneCell' = true:=by simp[enBool,enInt,enStr,Value.oneCell']) :
  wpList P ops Q (o::rest) a (wr.alloc (.cells cells ty)):=by
 obtain⟨hu,⟨i,z,hi,hz,h1,h2,h3⟩,hp,hbp⟩:=T;have hsz:=hbel.size;have hn:xs.length+1≤maxLen:=by
  have:(xs.length+1)*1≤(xs.length+1)*bytes:=Nat.mul_le_mul_left _ hbp;unfold maxLen;omega
 refine wpList_append_own _ hgd s x t ho base e i z size bytes hu hi hz h1 h2 h3 hp v xs.length (xs.flatMap en) hs (World.ownsRow.alloc hown _) ⟨wr.heap.size,0,none⟩ 1 1 (en y) hx (by rw[hlen];omega) ?_ hone hn hbound (by simp;omega) ?_
 ·intro j u hu;rw[Addr.add_lit,Nat.zero_add,cell_of_row _ _ _ cells ty (0,0) (heap_alloc_new wr _)];rw[← hu,← hy];simp
 ·intro v' w' hown' hg _;refine h v' w' ?_ ?_
  ·unfold Owns;rw[List.length_append,List.flatMap_append]
   simpa using hown'
  ·exact(hbel.alloc (by omega) _).grown hg (by simp;omega) (fun k hk=>(World.ownsRow.lt hown k hk).1)
theorem step_append_elem {α:Type} {en:α→List Value} {P:Program} {w0 W:World} {ops:Array Oper} {o:Oper} {a:Act} {K:Act→World→Prop} {Q:Exit→Act→World→Prop} {E:Prop} {s x:Operand}
  {t e:TypeId} {size bytes:Nat} (T:SlTy P t e size bytes) {base:Nat} {v:Value} (xs:List α) (y:α) {g:Nat} {cells:Array Value} {ty:TypeId}
  (hown:Owns W base e size en v xs) (hbel:Below base w0 W) (hbase:base≤w0.heap.size) (hbound:(xs.length+1)*bytes≤140737488355328) (hg:W.heap[g]? = some (.cells cells ty))
  (h:∀ v' w1,Owns w1 base e size en v' (xs++[y])→Below base w0 w1→W.grownBy w1 v.ownBlock→(∀ k,v'.ownBlock=some k→v.ownBlock=some k∨W.heap.size≤k)→K (a.put o.dst v') w1)
  (hgd:o.guard=none:=by rfl) (ho:o.op=.call { callee:=.builtin .append,args:=#[s,x],argTypes:=#[t,t] }:=by rfl)
  (hs:a.eval s=v:=by rfl) (hx:a.eval x=.slice (some ⟨g,0,none⟩) 1 1:=by rfl)
  (hy:cells.toList=en y:=by rfl) (hlen:(en y).length=size:=by rfl) (hone:∀ u∈en y,u.oneCell' = true:=by simp[enBool,enInt,enStr,Value.oneCell']) :
  if Region.wanted o (yielded ops a.tmps)=true then Oper.wp P o a W K Q else E:=by
 obtain⟨hu,⟨i,z,hi,hz,h1,h2,h3⟩,hp,hbp⟩:=T;subst h1;subst h2;have hsz:=hbel.size;have hn:xs.length+1≤maxLen:=by
  have:(xs.length+1)*1≤(xs.length+1)*i.bytes:=Nat.mul_le_mul_left _ hbp;unfold maxLen;omega
 have hnews:∀ j u,(en y)[j]? = some u→W.cell? ((⟨g,0,none⟩:Addr).add j)=some u:=by
  intro j u hu;rw[Addr.add_lit,Nat.zero_add,cell_of_row _ _ _ cells ty (0,0) hg];rw[← hu,← hy];simp
 have hl:(en y).length=1*i.size:=(by rw[hlen];omega);rw[if_pos (by simp[Region.wanted,hgd])];obtain⟨v',w',hr,g1,g2,_⟩:=run_append_own (P:=P) W base t o.type e i z i.size i.bytes hu hi hz rfl rfl h3 hp v xs.length (xs.flatMap en) hown ⟨g,0,none⟩ 1 1 (en y) hl hnews hone hn hbound (by omega);have hblk:=append_block hu hi hz hown hl hnews hone (by omega) hn hbound hr;unfold Oper.wp execOp;simp only[ho,resolve,invoke,builtin,Sem.run_bind,Sem.run_pure,Result.andThen_ok,List.map_toArray,List.map_cons,List.map_nil,hs,hx,hr];refine h v' w' ?_ ?_ ?_ ?_
 ·unfold Owns;rw[List.length_append,List.flatMap_append]
  simpa using g1
 ·exact hbel.grown g2 (by omega) (fun k hk=>(World.ownsRow.lt hown k hk).1)
 ·exact g2
 ·exact hblk
open Go.RowKit
theorem SlOf.of_block {α:Type} {w w':World} {en:α→List Value} {size:Nat} {a:Option Addr} {cap:Nat} {xs:List α} (h:SlOf w en size a cap xs) (hb:∀ b o,a=some ⟨b,o,none⟩→w'.heap[b]? = w.heap[b]?):SlOf w' en size a cap xs:=
 ⟨Sl.len h,Sl.le h,Sl.max h,Sl.nil h,fun j hj=>by
  obtain⟨b,o,e,h1⟩:=Sl.at' h j hj;exact⟨b,o,e,by rw[← h1];exact World.cell?_of_block (hb b o e)⟩⟩
theorem SlOf.setCell {α:Type} {w:World} {en:α→List Value} {size:Nat} {g o cap:Nat} {xs:List α} (h:SlOf w en size (some ⟨g,o,none⟩) cap xs) {p:Addr} (hp:p.block≠g) (u:Value):SlOf (w.setCell p u) en size (some ⟨g,o,none⟩) cap xs:=
 h.of_block fun b o e=>by cases e;exact Below.heap_setCell w p u g (Ne.symm hp)
theorem SlOf.drew {α:Type} {w:World} {en:α→List Value} {size:Nat} {a:Option Addr} {cap:Nat} {xs:List α} (h:SlOf w en size a cap xs):SlOf w.drew en size a cap xs:=
 h.keep (Below.refl _ _).drew lrf
theorem SlOf.alloc {α:Type} {w:World} {en:α→List Value} {size:Nat} {a:Option Addr} {cap:Nat} {xs:List α} (h:SlOf w en size a cap xs) (o:Obj):SlOf (w.alloc o) en size a cap xs:=
 h.keep ((Below.refl w.heap.size w).alloc lrf o) lrf
theorem cell_keep {w w':World} {a:Addr} {v:Value} (h:w.cell? a=some v) {B:Nat} (hb:Below B w w') (hB:a.block < B):w'.cell? a=some v:=by
 rw[hb.cell hB];exact h
theorem cell_keep' {w w':World} {a:Addr} {v:Value} (h:w.cell? a=some v) (hb:Below w.heap.size w w'):w'.cell? a=some v:=
 cell_keep h hb (World.block_lt_of_cell? w _ h)
def Blk (w:World) (k:Nat) (cs:Array Value):Prop:=∃ T,w.heap[k]? = some (.cells cs T)
theorem Blk.keep {w w':World} {k:Nat} {cs:Array Value} (h:Blk w k cs) {B:Nat} (hb:Below B w w') (hB:w.heap.size≤B):Blk w' k cs:=by
 obtain⟨T,h⟩:=h;refine⟨T,?_⟩;rw[hb.block k (Nat.lt_of_lt_of_le ?_ hB)]
 ·exact h
 ·exact(gE h)
theorem Blk.lt {w:World} {k:Nat} {cs:Array Value} (h:Blk w k cs):k < w.heap.size:=by
 obtain⟨T,h⟩:=h;exact(gE h)
theorem Blk.new (w:World) (cs:Array Value) (T:TypeId):Blk (w.alloc (.cells cs T)) w.heap.size cs:=⟨T,heap_alloc_new w _⟩
theorem Blk.alloc {w:World} {k:Nat} {cs:Array Value} (h:Blk w k cs) (o:Obj):Blk (w.alloc o) k cs:=h.keep ((Below.refl w.heap.size w).alloc lrf o) lrf
theorem Blk.drewN {w:World} {k:Nat} {cs:Array Value} (h:Blk w k cs) (n:Nat):Blk (w.drewN n) k cs:=h.keep (Go.below_drewN (Below.refl _ _) n) lrf
theorem Blk.other {w:World} {k:Nat} {cs:Array Value} (h:Blk w k cs) {a:Addr} (ha:a.block≠k) (v:Value):Blk (w.setCell a v) k cs:=by
 obtain⟨T,h⟩:=h;exact⟨T,by rw[Below.heap_setCell w a v k (Ne.symm ha)];exact h⟩
theorem Blk.cell {w:World} {k:Nat} {cs:Array Value} (h:Blk w k cs) (j:Nat) (u:Value) (hu:cs[j]? = some u):w.cell? ⟨k,j,none⟩=some u:=by
 obtain⟨T,h⟩:=h;rw[cell_of_row _ _ _ cs T (0,0) h];exact hu
theorem Blk.free {w:World} {k:Nat} {cs:Array Value} (h:Blk w k cs) (j:Nat):w.frozen? ⟨k,j,none⟩=false:=by
 obtain⟨T,h⟩:=h;simp[World.frozen?,h]
theorem Blk.two {w:World} {k:Nat} {x y:Value} (h:Blk w k #[x,y]):w.cell? ⟨k,0,none⟩=some x∧w.cell? ⟨k,1,none⟩=some y∧w.frozen? ⟨k,0,none⟩=false∧w.frozen? ⟨k,1,none⟩=false:=
 ⟨h.cell 0 x rfl,h.cell 1 y rfl,h.free 0,h.free 1⟩
theorem Blk.three {w:World} {k:Nat} {x y z:Value} (h:Blk w k #[x,y,z]):w.cell? ⟨k,0,none⟩=some x∧w.cell? ⟨k,1,none⟩=some y∧w.cell? ⟨k,2,none⟩=some z∧w.frozen? ⟨k,0,none⟩=false∧w.frozen? ⟨k,1,none⟩=false∧w.frozen? ⟨k,2,none⟩=false:=
 ⟨h.cell 0 x rfl,h.cell 1 y rfl,h.cell 2 z rfl,h.free 0,h.free 1,h.free 2⟩
theorem box1 (w:World) (xs:Array Value) (A:TypeId) :
  Blk (w.alloc (.cells xs A)) w.heap.size xs∧(w.alloc (.cells xs A)).heap.size=w.heap.size+1∧Below w.heap.size w (w.alloc (.cells xs A)):=
 ⟨Blk.new _ _ _,by simp,(Below.refl _ _).alloc lrf _⟩
theorem box2 (w:World) (xs ys:Array Value) (A B:TypeId) :
  Blk ((w.alloc (.cells xs A)).alloc (.cells ys B)) w.heap.size xs∧Blk ((w.alloc (.cells xs A)).alloc (.cells ys B)) (w.heap.size+1) ys∧((w.alloc (.cells xs A)).alloc (.cells ys B)).heap.size=w.heap.size+2 ∧
  Below w.heap.size w ((w.alloc (.cells xs A)).alloc (.cells ys B)):=by
 have h:=Blk.new (w.alloc (.cells xs A)) ys B;have e:(w.alloc (.cells xs A)).heap.size=w.heap.size+1:=(by simp);rw[e]at h;exact⟨(Blk.new w xs A).alloc _,h,by simp,((Below.refl _ _).alloc lrf _).alloc (by simp) _⟩
theorem box3 (w:World) (xs ys zs:Array Value) (A B C:TypeId) :
  Blk (((w.alloc (.cells xs A)).alloc (.cells ys B)).alloc (.cells zs C)) w.heap.size xs∧Blk (((w.alloc (.cells xs A)).alloc (.cells ys B)).alloc (.cells zs C)) (w.heap.size+1) ys ∧
  Blk (((w.alloc (.cells xs A)).alloc (.cells ys B)).alloc (.cells zs C)) (w.heap.size+1+1) zs∧(((w.alloc (.cells xs A)).alloc (.cells ys B)).alloc (.cells zs C)).heap.size=w.heap.size+3 ∧
  Below w.heap.size w (((w.alloc (.cells xs A)).alloc (.cells ys B)).alloc (.cells zs C)):=by
 obtain⟨h1,h2,h3,h4⟩:=box2 w xs ys A B;have h:=Blk.new ((w.alloc (.cells xs A)).alloc (.cells ys B)) zs C;rw[h3]at h;exact⟨h1.alloc _,h2.alloc _,h,by simp,h4.alloc (by simp;omega) _⟩
end Go.Proofs.YtkblpaabknjckaaGreatDoor
