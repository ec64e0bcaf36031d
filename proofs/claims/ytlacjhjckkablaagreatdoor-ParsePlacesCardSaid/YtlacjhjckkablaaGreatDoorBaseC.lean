/-
  Generic lemmas: slices of the call's own, told apart; an append that tells whether it grew; a store of a whole element.
-/
import Derived.Test.YtlacjhjckkablaaGreatDoorBaseD
import Derived.Lib.OwnKind
import Derived.Deep.RegionHeld3
set_option maxHeartbeats 128000000
set_option linter.unusedVariables false
namespace Go.Proofs.YtlacjhjckkablaaGreatDoor
open Go.RowKit
theorem held_take {P:Program} {md:Region.Mode} {ops:Array Oper} {Q:Exit→Act→World→Prop} {S:World→Prop} (i:Nat) {oi:Oper} {v:Value} {fuel:Nat} {listed:Array Bool} {a:Act} {w:World} (hi:ops.toList[i]? = some oi)
  (hs:Region.noSelect ops=true) (hf:Region.free md ops listed i=true) (hr:(Region.ready md ops listed).contains i=true)
  (hQ:∀ c a w,Q (.panic c) (a.put oi.dst v) w→Q (.panic c) a w) (hS:S w) (hy:YieldsIf P ops S oi v a)
  (h:wpAnyH P md ops Q S fuel (listed.setIfInBounds i true) (a.put oi.dst v) w):wpAnyH P md ops Q S (fuel+1) listed a w:=
 wpAnyH_take (by rw[← Array.getElem?_toList];exact hi) hs hf hr hQ hy hS h
theorem held_call {P:Program} {md:Region.Mode} {ops:Array Oper} {Q:Exit→Act→World→Prop} {S:World→Prop} (i:Nat) {o:Oper} {fuel:Nat} {listed:Array Bool} {a:Act} {w:World} (ho:ops.toList[i]? = some o) (hr:Region.ready md ops listed=[i])
  (h:∀ K':Act→World→Prop,Shut (∀ a w,S w→(S w→wpAnyH P md ops Q S fuel (listed.setIfInBounds i true) a w)→K' a w)→if Region.wanted o (yielded ops a.tmps)=true then Oper.wp P o a w K' Q else K' (a.put o.dst undef) w) :
  wpAnyH P md ops Q S (fuel+1) listed a w:=
 wpAnyH_ready (rs:=[i]) hr (by simp) (AllReadyH.cons (by rw[← Array.getElem?_toList];exact ho) h AllReadyH.nil)
theorem hT {P:Program} {md:Region.Mode} {ops:Array Oper} {Q:Exit→Act→World→Prop} {S:World→Prop} (i:Nat) {oi:Oper} {v:Value} {fuel:Nat} {listed:Array Bool} {a:Act} {w:World}
  (h:wpAnyH P md ops Q S fuel (listed.setIfInBounds i true) (a.put oi.dst v) w) (hi:ops.toList[i]? = some oi:=by rfl)
  (hs:Region.noSelect ops=true:=by kernel_rfl) (hf:Region.free md ops listed i=true:=by kernel_rfl) (hr:(Region.ready md ops listed).contains i=true:=by kernel_rfl)
  (hQ:∀ c a w,Q (.panic c) (a.put oi.dst v) w→Q (.panic c) a w:=by exact fun _ _ _ h=>h) (hS:S w:=by assumption)
  (hy:YieldsIf P ops S oi v a:=by first|(refine Or.inr ⟨?_,?_⟩<;>rfl)|(refine Or.inl ⟨by rfl,?_⟩;intro w hSw;(try dsimp only at hSw);first|(go_simp;done)|(go_simp;with_reducible rfl))):wpAnyH P md ops Q S (fuel+1) listed a w:=
 held_take i hi hs hf hr hQ hS hy h
theorem spt:(∀ (a:Act) (d:Tmp) (v:Value),a.put (some d) v = { a with tmps:=a.tmps.setIfInBounds d v })∧(∀ (a:Act) (v:Value),a.put none v=a)∧(∀ (l:List Value) (i:Nat) (x:Value),l.toArray.setIfInBounds i x=(l.set i x).toArray)∧(∀ (l:List Bool) (i:Nat) (x:Bool),l.toArray.setIfInBounds i x=(l.set i x).toArray) ∧
  (∀ (x y:Value) (l:List Value),(x::l).set 0 y=y::l)∧(∀ (x y:Bool) (l:List Bool),(x::l).set 0 y=y::l)∧(∀ (x y:Value) (l:List Value) (i:Nat),(x::l).set (i+1) y=x::l.set i y)∧(∀ (x y:Bool) (l:List Bool) (i:Nat),(x::l).set (i+1) y=x::l.set i y):=
 ⟨fun _ _ _=>rfl,fun _ _=>rfl,fun _ _ _=>List.setIfInBounds_toArray ..,fun _ _ _=>List.setIfInBounds_toArray ..,fun _ _ _=>rfl,fun _ _ _=>rfl,fun _ _ _ _=>rfl,fun _ _ _ _=>rfl⟩
def enV (v:Value):List Value:=[v]
theorem frozen_keep {w w':World} {a:Addr} (hb:Below w.heap.size w w') (hB:a.block < w.heap.size):w'.frozen? a=w.frozen? a:=World.frozen?_of_block (hb.block _ hB)
theorem Owns.pre {α:Type} {w:World} {base:Nat} {e:TypeId} {size:Nat} {en:α→List Value} {g n cap:Nat} {xs ys:List α} (hen:∀ x,(en x).length=size) (h:Owns w base e size en (.slice (some ⟨g,0,none⟩) n cap) (xs++ys)) :
  Owns w base e size en (.slice (some ⟨g,0,none⟩) xs.length cap) xs:=by
 refine⟨flatMap_length hen xs,?_⟩;rcases h.2 with ⟨hv,_⟩|⟨g',cap',cur,hv,hb,hg,hle,hm,hs,htk⟩
 ·cases hv
 ·cases hv
  rw[List.length_append]at hle;refine .inr ⟨g,cap,cur,rfl,hb,hg,by omega,hm,hs,?_⟩;have:=congrArg (List.take (xs.length*size)) htk;have e2:List.take (xs.length*size) (List.flatMap en (xs++ys))=xs.flatMap en:=by
   rw[List.flatMap_append,← flatMap_length hen xs];exact List.take_left
  rw[e2,List.take_take,List.length_append,Nat.min_eq_left (Nat.mul_le_mul_right _ (by omega))]at this;exact this
theorem Owns.kind {α β:Type} {w:World} {base base':Nat} {e e':TypeId} {size size':Nat} {en:α→List Value} {en':β→List Value} {v v':Value} {xs:List α} {ys:List β} (h:Owns w base e size en v xs) (h':Owns w base' e' size' en' v' ys) (he:e≠e'):Apart v v':=by
 intro k h1 h2;obtain⟨c,fz,h3⟩:=Lib.ownsRow_kind h k h1;obtain⟨c',fz',h4⟩:=Lib.ownsRow_kind h' k h2;rw[h3]at h4;cases h4
 exact he rfl
theorem Owns.fromBase {α:Type} {w:World} {base base':Nat} {e:TypeId} {size:Nat} {en:α→List Value} {v:Value} {xs:List α} (h:Owns w base e size en v xs) (hb:base'≤base):Owns w base' e size en v xs:=by
 refine⟨h.1,?_⟩;rcases h.2 with h0|⟨g,cap,cur,hv,h1,h2⟩
 ·exact .inl h0
 ·exact .inr ⟨g,cap,cur,hv,by omega,h2⟩
def Grew (w w':World) (v v':Value):Prop:=
 (∃ g n cap,v=.slice (some ⟨g,0,none⟩) n cap∧v' = .slice (some ⟨g,0,none⟩) (n+1) cap)∨(w.grownBy w' none∧∀ k,v'.ownBlock=some k→w.heap.size≤k)
theorem append_cases {P:Program} {w:World} {base:Nat} {t ty e:TypeId} {i:TypeInfo} {z:Value} (ht:P.underlying t=some (.slice e)) (hi:P.info? e=some i) (hz:i.zero=some z)
  {v:Value} {n:Nat} {xs:List Value} (hown:w.ownsRow base e i.size v n xs) {a:Addr} {c:Nat} {news:List Value} (hl:news.length=1*i.size)
  (hnews:∀ j u,news[j]? = some u→w.cell? (a.add j)=some u) (h1:∀ u∈news,u.oneCell' = true) (h63:n+1≤maxLen) (hbytes:(n+1)*i.bytes≤140737488355328)
  {v':Value} {w':World} (hr:(Builtin.append_ #[t,t] ty #[v,.slice (some a) 1 c]).run P w=.ok v' w'):Grew w w' v v':=by
 have hsmall:n+1≤9223372036854775807:=(by simp only[maxLen]at h63;omega);rcases hown.2 with ⟨rfl,rfl⟩|⟨g,cap,cur,rfl,hbg,hg,hnc,hcm,hcs,htake⟩
 ·have hr2:=run_append_nil (P:=P) w t ty e i z ht hi hz a 1 c news hl hnews (by omega) (by omega) (by have hb:=hbytes;simp only[Nat.zero_add]at hb;omega);rw[hr2]at hr;cases hr
  refine .inr ⟨⟨rfl,rfl,rfl,by simp,fun k hk _=>(Below.heap_alloc w.drew _ k hk)⟩,fun k hk=>?_⟩;simp[Value.ownBlock]at hk;omega
 ·by_cases hroom:n+1≤cap
  ·have hfit:n*i.size+news.length≤cur.size:=(by rw[hl,hcs,← Nat.add_mul];exact Nat.mul_le_mul_right _ hroom);have hr2:=run_append_room (P:=P) w t ty e i ht hi g n cap cur hg a 1 c news hl hnews h1 hroom hfit;rw[hr2]at hr;cases hr
   exact .inl ⟨g,n,cap,rfl,rfl⟩
  ·have holds:∀ j u,xs[j]? = some u→w.cell? ((⟨g,0,none⟩:Addr).add j)=some u:=hown.cells (g:=g) rfl;have hr2:=run_append_grow (P:=P) w t ty e i z ht hi hz ⟨g,0,none⟩ n cap xs hown.1 holds a 1 c news hl hnews (by omega) (by omega) (growslice_fits (by omega) hbytes);rw[hr2]at hr;cases hr
   refine .inr ⟨⟨rfl,rfl,rfl,by simp,fun k hk _=>(Below.heap_alloc w.drew _ k hk)⟩,fun k hk=>?_⟩;simp[Value.ownBlock]at hk;omega
theorem wpList_append_elem4 {α:Type} {en:α→List Value} {P:Program} {w0 wr:World} {ops:Array Oper} {rest:List Oper} {o:Oper} {a:Act} {Q:Exit→Act→World→Prop} {s x:Operand}
  {t e:TypeId} {size bytes:Nat} (T:SlTy P t e size bytes) {base:Nat} {v:Value} (xs:List α) (y:α) {cells:Array Value} {ty:TypeId}
  (hown:Owns wr base e size en v xs) (hbel:Below base w0 wr) (hbase:base≤w0.heap.size) (hbound:(xs.length+1)*bytes≤140737488355328)
  (h:∀ v' w1,Owns w1 base e size en v' (xs++[y])→Below base w0 w1→wr.grownBy w1 v.ownBlock→(∀ k,v'.ownBlock=some k→v.ownBlock=some k∨wr.heap.size≤k)→Grew wr w1 v v'→wpList P ops Q rest (a.put o.dst v') w1)
  (hgd:o.guard=none:=by rfl) (ho:o.op=.call { callee:=.builtin .append,args:=#[s,x],argTypes:=#[t,t] }:=by rfl)
  (hs:a.eval s=v:=by rfl) (hx:a.eval x=.slice (some ⟨wr.heap.size,0,none⟩) 1 1:=by rfl)
  (hy:cells.toList=en y:=by rfl) (hlen:(en y).length=size:=by rfl) (hone:∀ u∈en y,u.oneCell' = true:=by simp[enBool,enInt,enStr,Value.oneCell']) :
  wpList P ops Q (o::rest) a (wr.alloc (.cells cells ty)):=by
 obtain⟨hu,⟨i,z,hi,hz,h1,h2,h3⟩,hp,hbp⟩:=T;subst h1;subst h2;have hsz:=hbel.size;have hn:xs.length+1≤maxLen:=by
  have:(xs.length+1)*1≤(xs.length+1)*i.bytes:=Nat.mul_le_mul_left _ hbp;unfold maxLen;omega
 have hnews:∀ j u,(en y)[j]? = some u→(wr.alloc (.cells cells ty)).cell? ((⟨wr.heap.size,0,none⟩:Addr).add j)=some u:=by
  intro j u hu;rw[Addr.add_lit,Nat.zero_add,cell_of_row _ _ _ cells ty (0,0) (heap_alloc_new wr _)];rw[← hu,← hy];simp
 have hl:(en y).length=1*i.size:=(by rw[hlen];omega);refine wpList_plain hgd fun K hK=>?_
 obtain⟨v',w',hr,g1,g2,_⟩:=run_append_own (P:=P) (wr.alloc (.cells cells ty)) base t o.type e i z i.size i.bytes hu hi hz rfl rfl h3 hp v xs.length (xs.flatMap en) (World.ownsRow.alloc hown _) ⟨wr.heap.size,0,none⟩ 1 1 (en y) hl hnews hone hn hbound (by simp;omega);have hcs:=append_cases hu hi hz (World.ownsRow.alloc hown _) hl hnews hone hn hbound hr;have hblk:=append_block hu hi hz (World.ownsRow.alloc hown _) hl hnews hone (by omega) hn hbound hr;unfold Oper.wp execOp;simp only[ho,resolve,invoke,builtin,Sem.run_bind,Sem.run_pure,Result.andThen_ok,List.map_toArray,List.map_cons,List.map_nil,hs,hx,hr];refine hK _ _ (h v' w' ?_ ?_ ?_ ?_ ?_)
 ·unfold Owns;rw[List.length_append,List.flatMap_append]
  simpa using g1
 ·exact(hbel.alloc (by omega) _).grown g2 (by simp;omega) (fun k hk=>(World.ownsRow.lt hown k hk).1)
 ·exact⟨g2.os,g2.tape,g2.output,Nat.le_trans (by simp) g2.size,fun k hk hne=>(g2.block k (by simp;omega) hne).trans (Below.heap_alloc wr _ k hk)⟩
 ·intro k hk;rcases hblk k hk with h5|h5
  ·exact .inl h5
  ·simp at h5;exact .inr (by omega)
 ·rcases hcs with h5|⟨h5,h6⟩
  ·exact .inl h5
  ·refine .inr ⟨⟨h5.os,h5.tape,h5.output,Nat.le_trans (by simp) h5.size,fun k hk hne=>(h5.block k (by simp;omega) hne).trans (Below.heap_alloc wr _ k hk)⟩,fun k hk=>?_⟩;have:=h6 k hk;simp at this;omega
def setRow (w:World) (g:Nat):Nat→List Value→World
 | _,[]=>w
 | o,v::vs=>setRow (w.setCell ⟨g,o,none⟩ v) g (o+1) vs
def setMany:List Value→Nat→List Value→List Value
 | cs,_,[]=>cs
 | cs,o,v::vs=>setMany (cs.set o v) (o+1) vs
theorem setMany_app (as:List Value) (o:Nat) (bs cs vs:List Value) (hb:bs.length=vs.length) (ho:as.length=o):setMany (as++bs++cs) o vs=as++vs++cs:=by
 induction vs generalizing as bs o with
 | nil=>
  obtain rfl:bs=[]:=List.length_eq_zero_iff.1 (by simpa using hb);simp[setMany]
 | cons v vs ih=>
  cases bs with
  | nil=>simp at hb
  | cons b bs=>
   subst ho;rw[setMany];have e:((as++(b::bs)++cs).set as.length v)=(as++[v])++bs++cs:=(by simp);rw[e,ih (as++[v]) (as.length+1) bs (by simpa using hb) (by simp)];simp
theorem flatMap_set {α:Type} {en:α→List Value} {size:Nat} (hen:∀ x,(en x).length=size) (xs:List α) (k:Nat) (hk:k < xs.length) (y:α):(xs.set k y).flatMap en=setMany (xs.flatMap en) (k*size) (en y):=by
 have e1:xs.set k y=xs.take k++[y]++xs.drop (k+1):=(by rw[List.set_eq_take_append_cons_drop,if_pos hk];simp);have e2:xs=xs.take k++[xs[k]]++xs.drop (k+1):=(by simp);have e3:xs.flatMap en=(xs.take k).flatMap en++en xs[k]++(xs.drop (k+1)).flatMap en:=by
  have:=congrArg (List.flatMap en) e2;rw[this];simp only[List.flatMap_append,List.flatMap_cons,List.flatMap_nil,List.append_nil]
 rw[e1,e3,setMany_app _ _ _ _ _ (by rw[hen,hen]) (by rw[flatMap_length hen,List.length_take,Nat.min_eq_left (by omega)])];simp[List.flatMap_append]
theorem ownsRow_setRow {w:World} {base:Nat} {e:TypeId} {size:Nat} {g n m cap:Nat} {cs:List Value} (o:Nat) (vs:List Value) (h:w.ownsRow base e size (.slice (some ⟨g,0,none⟩) n cap) m cs) (ho:o+vs.length≤cs.length) :
  (setRow w g o vs).ownsRow base e size (.slice (some ⟨g,0,none⟩) n cap) m (setMany cs o vs):=by
 induction vs generalizing w o cs with
 | nil=>exact h
 | cons v vs ih=>
  rw[setRow,setMany];simp only[List.length_cons]at ho;refine ih (o+1) ?_ (by rw[List.length_set];omega);refine⟨by rw[List.length_set];exact h.1,.inr ?_⟩;rcases h.2 with ⟨hv,_⟩|⟨g',cap',cur,hv,hb,hg,hle,hm,hs,htk⟩
  ·cases hv
  ·cases hv
   refine⟨g,cap,cur.setIfInBounds o v,rfl,hb,?_,hle,hm,by simpa using hs,?_⟩
   ·simp[World.setCell,Array.getElem?_modify,hg]
   ·rw[Array.toList_setIfInBounds,List.take_set,← htk]
theorem Owns.setRow {α:Type} {w:World} {base:Nat} {e:TypeId} {size:Nat} {en:α→List Value} {g n cap:Nat} {xs:List α} (hen:∀ x,(en x).length=size) (h:Owns w base e size en (.slice (some ⟨g,0,none⟩) n cap) xs) {k:Nat} (y:α) (hk:k < xs.length) :
  Owns (setRow w g (k*size) (en y)) base e size en (.slice (some ⟨g,0,none⟩) n cap) (xs.set k y):=by
 unfold Owns;rw[flatMap_set hen xs k hk,List.length_set];refine ownsRow_setRow _ _ h ?_;rw[hen,flatMap_length hen,← Nat.succ_mul];exact Nat.mul_le_mul_right _ hk
theorem setRow_grown (w:World) (g o:Nat) (vs:List Value):w.grownBy (setRow w g o vs) (some g):=by
 induction vs generalizing w o with
 | nil=>exact World.grownBy.refl _ _
 | cons v vs ih=>
  have h:=ih (w.setCell ⟨g,o,none⟩ v) (o+1);have hs:(w.setCell ⟨g,o,none⟩ v).heap.size=w.heap.size:=(by simp[World.setCell]);refine⟨h.os,h.tape,h.output,by rw[← hs];exact h.size,fun k hk hne=>?_⟩;rw[setRow];exact(h.block k (by rw[hs];exact hk) hne).trans (Below.heap_setCell w _ v k (fun e=>hne (by rw[e])))
theorem Below.ofGrown {w w':World} (h:w.grownBy w' none):Below w.heap.size w w':=⟨h.os,h.tape,h.output,h.size,fun k hk=>h.block k hk (by simp)⟩
theorem Owns.keptNone {α:Type} {w w1:World} {base:Nat} {e:TypeId} {size:Nat} {en:α→List Value} {u:Value} {xs:List α} (h:Owns w base e size en u xs) (hg:w.grownBy w1 none):Owns w1 base e size en u xs:=h.keep (Below.ofGrown hg) lrf
theorem range_map_get {α:Type} (f:Nat→α) (m k:Nat) (h:k < ((List.range m).map f).length):((List.range m).map f)[k]=f k:=by simp
theorem range_snoc {α:Type} (f:Nat→α) (m:Nat):(List.range (m+1)).map f=(List.range m).map f++[f m]:=by simp[List.range_succ]
def Kin (e e2:TypeId) (w w':World):Prop:=∀ (k:Nat) (C:Array Value) (T:TypeId) (fz:Nat×Nat),w.heap[k]? = some (Obj.cells C T fz)→T≠e→T≠e2→w'.heap[k]? = w.heap[k]?
theorem Kin.refl (e e2:TypeId) (w:World):Kin e e2 w w:=fun _ _ _ _ _ _ _=>rfl
theorem lt_of_at {w:World} {k:Nat} {o:Obj} (h:w.heap[k]? = some o):k < w.heap.size:=by
 obtain⟨h1,-⟩:=Array.getElem?_eq_some_iff.1 h;exact h1
theorem Kin.keep {e e2:TypeId} {w wr w':World} (h:Kin e e2 w wr) (hb:Below wr.heap.size wr w'):Kin e e2 w w':=fun k C T fz hk h1 h2=>by
 have hw:=h k C T fz hk h1 h2;exact(hb.block k (lt_of_at (hw.trans hk))).trans hw
theorem Kin.grown {α:Type} {e e2 e':TypeId} {w wr w':World} {base size:Nat} {en:α→List Value} {v:Value} {xs:List α} (h:Kin e e2 w wr) (ho:Owns wr base e' size en v xs) (he:e' = e∨e' = e2) (hg:wr.grownBy w' v.ownBlock):Kin e e2 w w':=fun k C T fz hk h1 h2=>by
 have hw:=h k C T fz hk h1 h2;refine(hg.block k (lt_of_at (hw.trans hk)) (fun hc=>?_)).trans hw;obtain⟨c,fz',h3⟩:=Lib.ownsRow_kind ho k (by first|exact hc|exact hc.symm);rw[hw,hk]at h3;cases h3
 rcases he with h4|h4
 ·exact h1 h4
 ·exact h2 h4
section
variable {α:Type} (en:α→List Value) (size:Nat) (e e2:TypeId) (base m:Nat) (vs:Nat→Value) (lsv:Value) (w0:World) (mk:Nat→Nat→α) (n:Nat→Nat)
def marksOf (k c:Nat):List α:=(List.range c).map (mk k)
theorem marksOf_snoc (k c:Nat):marksOf mk k (c+1)=marksOf mk k c++[mk k c]:=range_snoc _ _
theorem marksOf_len (k c:Nat):(marksOf mk k c).length=c:=by simp[marksOf]
theorem marksOf_add (k c d:Nat):∃ r,marksOf mk k (c+d)=marksOf mk k c++r:=by
 induction d with
 | zero=>exact⟨[],by simp⟩
 | succ d ih=>
  obtain⟨r,hr⟩:=ih;exact⟨r++[mk k (c+d)],by rw[← Nat.add_assoc,marksOf_snoc,hr,List.append_assoc]⟩
theorem marksOf_get (k c i:Nat) (h:i < (marksOf mk k c).length):(marksOf mk k c)[i]=mk k i:=by simp[marksOf]
structure ApA (X:Nat→List α) (wr:World):Prop where
 bel:Below base w0 wr
 own:∀ j,j < m→Owns wr base e size en (vs j) (X j)
 ls:Owns wr base e2 1 enV lsv ((List.range m).map vs)
 kin:Kin e e2 w0 wr
structure Ph1 (k i:Nat) (X:Nat→List α):Prop where
 len:∀ j,j < m→(X j).length=n j
 done:∀ j,j < k→X j=marksOf mk j (n j)
 part:(X k).take i=marksOf mk k i
structure ApB (k:Nat) (G:Nat→Value) (gsv:Value) (wr:World):Prop where
 a:ApA en size e e2 base m vs lsv w0 (fun j=>marksOf mk j (n j)) wr
 gown:∀ j,j < k→Owns wr base e size en (G j) (marksOf mk j (n j+64))
 gap:∀ j,j < k→∀ j',k≤j'→j' < m→Apart (vs j') (G j)
 gs:Owns wr base e2 1 enV gsv ((List.range k).map G)
 gsap:Apart gsv lsv
structure ApC (k:Nat) (G:Nat→Value) (gsv g:Value) (i:Nat) (wr:World):Prop where
 a:ApA en size e e2 base m vs lsv w0 (fun j=>marksOf mk j (n j)) wr
 gown:∀ j,j < k→Owns wr base e size en (G j) (marksOf mk j (n j+64))
 gap:∀ j,j < k→∀ j',k < j'→j' < m→Apart (vs j') (G j)
 gs:Owns wr base e2 1 enV gsv ((List.range k).map G)
 gsap:Apart gsv lsv
 cur:Owns wr base e size en g (marksOf mk k (n k+i))
 c1:∀ j,j < m→j≠k→Apart g (vs j)
 c2:∀ j,j < k→Apart g (G j)
 c3:Apart g (vs k)∨∃ b cap,vs k=.slice (some ⟨b,0,none⟩) (n k) cap∧g=.slice (some ⟨b,0,none⟩) (n k+i) cap
end
section
variable {α:Type} {en:α→List Value} {size:Nat} {e e2:TypeId} {base m:Nat} {vs:Nat→Value} {lsv:Value} {w0:World} {mk:Nat→Nat→α} {n:Nat→Nat}
theorem ApA.keep {X:Nat→List α} {wr w':World} (h:ApA en size e e2 base m vs lsv w0 X wr) (hB:base≤w0.heap.size) (hb:Below wr.heap.size wr w'):ApA en size e e2 base m vs lsv w0 X w':=
 ⟨bstep h.bel hb hB,fun j hj=>(h.own j hj).keep hb lrf,h.ls.keep hb lrf,h.kin.keep hb⟩
theorem ApA.drew {X:Nat→List α} {wr:World} (h:ApA en size e e2 base m vs lsv w0 X wr):ApA en size e e2 base m vs lsv w0 X wr.drew:=
 ⟨h.bel.drew,fun j hj=>(h.own j hj).drew,h.ls.drew,fun k C T fz hk h1 h2=>h.kin k C T fz hk h1 h2⟩
theorem ApA.store {X:Nat→List α} {wr:World} (h:ApA en size e e2 base m vs lsv w0 X wr) (hap:∀ i j,i < m→j < m→i≠j→Apart (vs i) (vs j)) (hne:e≠e2) (hen:∀ x,(en x).length=size)
  {k i g c cap:Nat} (hk:k < m) (hv:vs k=.slice (some ⟨g,0,none⟩) c cap) (hi:i < (X k).length) (y:α):ApA en size e e2 base m vs lsv w0 (fun j=>if j=k then (X k).set i y else X j) (setRow wr g (i*size) (en y)):=by
 have hg:=setRow_grown wr g (i*size) (en y);have hob:(vs k).ownBlock=some g:=(by rw[hv];rfl);have hgb:=(h.own k hk).lt g hob;have hg':wr.grownBy (Go.Proofs.YtlacjhjckkablaaGreatDoor.setRow wr g (i*size) (en y)) (vs k).ownBlock:=(by rw[hob];exact hg);refine⟨h.bel.grown hg (Nat.le_trans (Nat.le_of_lt (Nat.lt_of_le_of_lt hgb.1 hgb.2)) lrf) (fun x hx=>by cases hx;exact hgb.1),fun j hj=>?_,?_,h.kin.grown (h.own k hk) (.inl rfl) hg'⟩
 ·by_cases hjk:j=k
  ·subst hjk;simp only[if_true];have:=h.own j hk;rw[hv]at this ⊢;exact Owns.setRow hen this y hi
  ·simp only[if_neg hjk];exact(h.own j hj).other hg' (hap k j hk hj (Ne.symm hjk))
 ·exact h.ls.other hg' ((h.own k hk).kind h.ls hne)
theorem ApA.room {X:Nat→List α} {wr:World} (h:ApA en size e e2 base m vs lsv w0 X wr) (hen:∀ x,(en x).length=size)
  {k i g c cap:Nat} (hk:k < m) (hv:vs k=.slice (some ⟨g,0,none⟩) c cap) (hi:i < (X k).length) {j:Nat} (hj:j < size):∃ u,wr.cell? ⟨g,i*size+j,none⟩=some u:=by
 have ho:=h.own k hk;rw[hv]at ho;have hlt:i*size+j < ((X k).flatMap en).length:=by
  rw[flatMap_length hen];exact Nat.lt_of_lt_of_le (by rw[Nat.succ_mul];omega) (Nat.mul_le_mul_right size (show i+1≤_ from hi))
 obtain⟨b,o,e1,h1⟩:=Sl.at' ho.sl.2 (i*size+j) hlt;cases e1
 rw[Nat.zero_add]at h1;exact⟨_,h1.trans (List.getElem?_eq_getElem hlt)⟩
theorem ApA.lsCell {bl ol cl:Nat} {X:Nat→List α} {wr:World} (h:ApA en size e e2 base m vs (.slice (some ⟨bl,ol,none⟩) m cl) w0 X wr) {k:Nat} (hk:k < m):wr.cell? ⟨bl,ol+k,none⟩=some (vs k):=by
 obtain⟨bl',ol',hbo,hbl,hcl⟩:=SlOf.cell1 h.ls.sl.2 id (fun _=>rfl) (k:=k) (by simpa using hk);cases hbo
 rw[range_map_get]at hcl;exact hcl
theorem ApA.lsCell' {al:Option Addr} {cl:Nat} {X:Nat→List α} {wr:World} (h:ApA en size e e2 base m vs (.slice al m cl) w0 X wr) {k:Nat} (hk:k < m):∃ bl ol,al=some ⟨bl,ol,none⟩∧wr.cell? ⟨bl,ol+k,none⟩=some (vs k):=by
 obtain⟨bl,ol,rfl,hbl,hcl⟩:=SlOf.cell1 h.ls.sl.2 id (fun _=>rfl) (k:=k) (by simpa using hk);exact⟨bl,ol,rfl,h.lsCell hk⟩
theorem ApB.gsCell' {al:Option Addr} {c cl q:Nat} {G:Nat→Value} {wr:World} (h:ApB en size e e2 base m vs lsv w0 mk n q G (.slice al c cl) wr) {k:Nat} (hk:k < q):∃ bl ol,al=some ⟨bl,ol,none⟩∧wr.cell? ⟨bl,ol+k,none⟩=some (G k):=by
 obtain⟨bl,ol,rfl,hbl,hcl⟩:=SlOf.cell1 h.gs.sl.2 id (fun _=>rfl) (k:=k) (by simpa using hk);rw[range_map_get]at hcl;exact⟨bl,ol,rfl,hcl⟩
theorem Ph1.start {xs:Nat→List α} (h:∀ j,j < m→(xs j).length=n j):Ph1 m mk n 0 0 xs:=⟨h,fun j hj=>by omega,by simp[marksOf]⟩
theorem Ph1.next {k i:Nat} {X:Nat→List α} (h:Ph1 m mk n k i X) (hk:k < m) (hi:i < n k):Ph1 m mk n k (i+1) (fun j=>if j=k then (X k).set i (mk k i) else X j):=by
 have hlen:=h.len k hk;refine⟨fun j hj=>?_,fun j hj=>?_,?_⟩
 ·by_cases hjk:j=k
  ·subst hjk;simpa using hlen
  ·simpa [hjk]using h.len j hj
 ·have hjk:j≠k:=by omega
  simpa [hjk]using h.done j hj
 ·simp only[if_true];rw[marksOf_snoc,← h.part,List.take_succ_eq_append_getElem (by rw[List.length_set];omega),List.take_set_of_le lrf];simp
theorem Ph1.again {k i:Nat} {X:Nat→List α} (y:α):(fun j=>if j=k then ((fun j=>if j=k then (X k).set i y else X j) k).set i y else (fun j=>if j=k then (X k).set i y else X j) j)=(fun j=>if j=k then (X k).set i y else X j):=by
 funext j
 by_cases hjk:j=k
 ·subst hjk;simp
 ·simp[hjk]
theorem Ph1.row {k:Nat} {X:Nat→List α} (h:Ph1 m mk n k (n k) X) (hk:k < m):Ph1 m mk n (k+1) 0 X:=by
 refine⟨h.len,fun j hj=>?_,by simp[marksOf]⟩;by_cases hjk:j=k
 ·subst hjk;rw[← h.part,List.take_of_length_le (by rw[h.len j hk];exact lrf)]
 ·exact h.done j (by omega)
theorem ApB.start {i:Nat} {X:Nat→List α} {wr:World} (h:ApA en size e e2 base m vs lsv w0 X wr) (hp:Ph1 m mk n m i X) (G:Nat→Value):ApB en size e e2 base m vs lsv w0 mk n 0 G (.slice none 0 0) wr:=
 ⟨⟨h.bel,fun j hj=>by rw[← hp.done j hj];exact h.own j hj,h.ls,h.kin⟩,fun j hj=>by omega,fun j hj=>by omega,Owns.nil _ _ _ _ _,Apart.nil _⟩
theorem ApB.enter {k:Nat} {G:Nat→Value} {gsv:Value} {wr:World} (h:ApB en size e e2 base m vs lsv w0 mk n k G gsv wr) (hap:∀ i j,i < m→j < m→i≠j→Apart (vs i) (vs j)) (hk:k < m):ApC en size e e2 base m vs lsv w0 mk n k G gsv (vs k) 0 wr:=by
 refine⟨h.a,h.gown,fun j hj j' h1 h2=>h.gap j hj j' (by omega) h2,h.gs,h.gsap,h.a.own k hk,fun j hj hjk=>hap k j hk hj (Ne.symm hjk),fun j hj=>h.gap j hj k lrf hk,?_⟩;have ho:=h.a.own k hk;obtain⟨a,cap,hv,_⟩:=ho.shape;rcases ho.2 with ⟨hv0,_⟩|⟨g,cap',cur,hv1,_⟩
 ·left;rw[hv0];exact Apart.nil _
 ·right
  rw[marksOf_len]at hv1;exact⟨g,cap',hv1,hv1⟩
theorem ApC.keep {k i:Nat} {G:Nat→Value} {gsv g:Value} {wr w':World} (h:ApC en size e e2 base m vs lsv w0 mk n k G gsv g i wr) (hB:base≤w0.heap.size) (hb:Below wr.heap.size wr w'):ApC en size e e2 base m vs lsv w0 mk n k G gsv g i w':=
 ⟨h.a.keep hB hb,fun j hj=>(h.gown j hj).keep hb lrf,h.gap,h.gs.keep hb lrf,h.gsap,h.cur.keep hb lrf,h.c1,h.c2,h.c3⟩
theorem ApB.keep {k:Nat} {G:Nat→Value} {gsv:Value} {wr w':World} (h:ApB en size e e2 base m vs lsv w0 mk n k G gsv wr) (hB:base≤w0.heap.size) (hb:Below wr.heap.size wr w'):ApB en size e e2 base m vs lsv w0 mk n k G gsv w':=
 ⟨h.a.keep hB hb,fun j hj=>(h.gown j hj).keep hb lrf,h.gap,h.gs.keep hb lrf,h.gsap⟩
theorem ApC.step {k i:Nat} {G:Nat→Value} {gsv g v':Value} {wr w1:World} (h:ApC en size e e2 base m vs lsv w0 mk n k G gsv g i wr) (hne:e≠e2) (hen:∀ x,(en x).length=size) (hk:k < m)
  (ho:Owns w1 base e size en v' (marksOf mk k (n k+i)++[mk k (n k+i)])) (hb:Below base w0 w1) (hg:wr.grownBy w1 g.ownBlock) (hv:∀ x,v'.ownBlock=some x→g.ownBlock=some x∨wr.heap.size≤x) (hc:Grew wr w1 g v') :
  ApC en size e e2 base m vs lsv w0 mk n k G gsv v' (i+1) w1:=by
 rw[← marksOf_snoc]at ho;have hself:Owns w1 base e size en (vs k) (marksOf mk k (n k))∧(Apart v' (vs k)∨∃ b cap,vs k=.slice (some ⟨b,0,none⟩) (n k) cap∧v' = .slice (some ⟨b,0,none⟩) (n k+(i+1)) cap):=by
  have hold:=h.a.own k hk;rcases h.c3 with h3|⟨b,cap,h3,h4⟩
  ·exact⟨hold.other hg h3,.inl (Apart.app h3 hold hv)⟩
  ·rcases hc with ⟨b',n',cap',h5,h6⟩|⟨h5,h6⟩
   ·rw[h4]at h5;cases h5
    obtain⟨r,hr⟩:=marksOf_add mk k (n k) (i+1);rw[Nat.add_assoc,hr,h6]at ho;refine⟨?_,.inr ⟨b,cap,h3,h6⟩⟩;have:=Owns.pre hen ho;rw[marksOf_len]at this;rw[h3];exact this
   ·refine⟨hold.keptNone h5,.inl fun x hx1 hx2=>?_⟩;have:=h6 x hx1;have:=(hold.lt x hx2).2;omega
 refine⟨⟨hb,fun j hj=>?_,h.a.ls.other hg (h.cur.kind h.a.ls hne),h.a.kin.grown h.cur (.inl rfl) hg⟩,fun j hj=>(h.gown j hj).other hg (h.c2 j hj),h.gap,h.gs.other hg (h.cur.kind h.gs hne),h.gsap,ho,fun j hj hjk=>Apart.app (h.c1 j hj hjk) (h.a.own j hj) hv,fun j hj=>Apart.app (h.c2 j hj) (h.gown j hj) hv,hself.2⟩;by_cases hjk:j=k
 ·subst hjk;exact hself.1
 ·exact(h.a.own j hj).other hg (h.c1 j hj hjk)
theorem ApC.leave {k:Nat} {G:Nat→Value} {gsv g gs':Value} {wr w1:World} (h:ApC en size e e2 base m vs lsv w0 mk n k G gsv g 64 wr) (hne:e≠e2)
  (ho:Owns w1 base e2 1 enV gs' ((List.range k).map G++[g])) (hb:Below base w0 w1) (hg:wr.grownBy w1 gsv.ownBlock) (hv:∀ x,gs'.ownBlock=some x→gsv.ownBlock=some x∨wr.heap.size≤x) :
  ApB en size e e2 base m vs lsv w0 mk n (k+1) (fun j=>if j=k then g else G j) gs' w1:=by
 refine⟨⟨hb,fun j hj=>(h.a.own j hj).other hg ((h.a.own j hj).kind h.gs hne).symm,h.a.ls.other hg h.gsap,h.a.kin.grown h.gs (.inr rfl) hg⟩,fun j hj=>?_,fun j hj j' h1 h2=>?_,?_,Apart.app h.gsap h.a.ls hv⟩
 ·by_cases hjk:j=k
  ·subst hjk;simp only[if_true];exact h.cur.other hg (h.cur.kind h.gs hne).symm
  ·simp only[if_neg hjk];exact(h.gown j (by omega)).other hg ((h.gown j (by omega)).kind h.gs hne).symm
 ·by_cases hjk:j=k
  ·subst hjk;simp only[if_true];exact(h.c1 j' h2 (by omega)).symm
  ·simp only[if_neg hjk];exact h.gap j (by omega) j' (by omega) h2
 ·rw[range_snoc];simp only[if_true];have:(List.range k).map (fun j=>if j=k then g else G j)=(List.range k).map G:=by
   refine List.map_congr_left fun j hj=>?_
   rw[if_neg (by have:=List.mem_range.1 hj;omega)]
  rw[this];exact ho
end
end Go.Proofs.YtlacjhjckkablaaGreatDoor
