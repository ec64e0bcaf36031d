/-
  Generic lemmas: slices of the call's own, told apart; an append that tells whether it grew; a store of a whole element.
-/
import Derived.Test.YtfflljgnpfldfaaGreatDoorBaseD
set_option linter.all false
set_option maxHeartbeats 128000000
namespace Go.Proofs.YtfflljgnpfldfaaGreatDoor
open Go.RowKit
theorem oA {P:Program} {md:Region.Mode} {ops:Array Oper} {Q:Exit→Act→World→Prop} {S:World→Prop} (i:Nat) {oi:Oper} {v:Value} {fuel:Nat} {listed:Array Bool} {a:Act} {w:World} (hi:ops.toList[i]? = some oi)
  (hs:Region.noSelect ops=true) (hf:Region.free md ops listed i=true) (hr:(Region.ready md ops listed).contains i=true)
  (hQ:∀ c a w,Q (.panic c) (a.put oi.dst v) w→Q (.panic c) a w) (hS:S w) (hy:YieldsIf P ops S oi v a)
  (h:wpAnyH P md ops Q S fuel (listed.setIfInBounds i true) (a.put oi.dst v) w):wpAnyH P md ops Q S (fuel+1) listed a w:=
 wpAnyH_take Ve hs hf hr hQ hy hS h
theorem jS {P:Program} {md:Region.Mode} {ops:Array Oper} {Q:Exit→Act→World→Prop} {S:World→Prop} (i:Nat) {o:Oper} {fuel:Nat} {listed:Array Bool} {a:Act} {w:World} (ho:ops.toList[i]? = some o) (hr:Region.ready md ops listed=[i])
  (h:∀ K':Act→World→Prop,Shut (∀ a w,S w→(S w→wpAnyH P md ops Q S fuel (listed.setIfInBounds i true) a w)→K' a w)→if Region.wanted o (yielded ops a.tmps)=true then Oper.wp P o a w K' Q else K' (a.put o.dst undef) w) :
  wpAnyH P md ops Q S (fuel+1) listed a w:=
 wpAnyH_ready (rs:=[i]) hr aB (AllReadyH.cons PS h AllReadyH.nil)
theorem hT {P:Program} {md:Region.Mode} {ops:Array Oper} {Q:Exit→Act→World→Prop} {S:World→Prop} (i:Nat) {oi:Oper} {v:Value} {fuel:Nat} {listed:Array Bool} {a:Act} {w:World}
  (h:wpAnyH P md ops Q S fuel (listed.setIfInBounds i true) (a.put oi.dst v) w) (hi:ops.toList[i]? = some oi:=by rfl)
  (hs:Region.noSelect ops=true:=by kernel_rfl) (hf:Region.free md ops listed i=true:=by kernel_rfl) (hr:(Region.ready md ops listed).contains i=true:=by kernel_rfl)
  (hQ:∀ c a w,Q (.panic c) (a.put oi.dst v) w→Q (.panic c) a w:=by exact fun _ _ _ h=>h) (hS:S w:=by assumption)
  (hy:YieldsIf P ops S oi v a:=by first|(refine Or.inr ⟨?_,?_⟩<;>rfl)|(refine Or.inl ⟨by rfl,?_⟩;intro w hSw;(try dsimp only at hSw);first|(go_simp;done)|(go_simp;with_reducible rfl))):wpAnyH P md ops Q S (fuel+1) listed a w:=
 oA i hi hs hf hr hQ hS hy h
theorem spt:(∀ (a:Act) (d:Tmp) (v:Value),a.put (some d) v = { a with tmps:=a.tmps.setIfInBounds d v })∧(∀ (a:Act) (v:Value),a.put none v=a)∧(∀ (l:List Value) (i:Nat) (x:Value),l.toArray.setIfInBounds i x=(l.set i x).toArray)∧(∀ (l:List Bool) (i:Nat) (x:Bool),l.toArray.setIfInBounds i x=(l.set i x).toArray) ∧
  (∀ (x y:Value) (l:List Value),(x::l).set 0 y=y::l)∧(∀ (x y:Bool) (l:List Bool),(x::l).set 0 y=y::l)∧(∀ (x y:Value) (l:List Value) (i:Nat),(x::l).set (i+1) y=x::l.set i y)∧(∀ (x y:Bool) (l:List Bool) (i:Nat),(x::l).set (i+1) y=x::l.set i y):=
 ⟨fun _ _ _=>rfl,fun _ _=>rfl,fun _ _ _=>nI ..,fun _ _ _=>nI ..,fun _ _ _=>rfl,fun _ _ _=>rfl,fun _ _ _ _=>rfl,fun _ _ _ _=>rfl⟩
def qq (v:Value):List Value:=[v]
theorem aba {w w':World} {a:Addr} (hb:Below w.heap.size w w') (hB:a.block < w.heap.size):w'.frozen? a=w.frozen? a:=World.frozen?_of_block (hb.block _ hB)
theorem aG.pre {α:Type} {w:World} {base:Nat} {e:TypeId} {size:Nat} {en:α→List Value} {g n cap:Nat} {xs ys:List α} (hen:∀ x,(en x).length=size) (h:aG w base e size en (.slice (some ⟨g,0,none⟩) n cap) (xs++ys)) :
  aG w base e size en (.slice (some ⟨g,0,none⟩) xs.length cap) xs:=by
 refine⟨o7 hen xs,?_⟩;rcases h.2 with ⟨hv,_⟩|⟨g',cap',cur,hv,hb,hg,hle,hm,hs,iJ⟩
 ·cases hv
 ·cases hv
  rw[ey]at hle;refine .inr ⟨g,cap,cur,rfl,hb,hg,ae,hm,hs,?_⟩;have:=jA (List.take (xs.length*size)) iJ;have e2:List.take (xs.length*size) (List.flatMap en (xs++ys))=xs.flatMap en:=by
   rw[zx,← o7 hen xs];exact List.take_left
  rw[e2,List.take_take,ey,Fx (vL _ ae)]at this;exact this
theorem aG.kind {α β:Type} {w:World} {base base':Nat} {e e':TypeId} {size xE:Nat} {en:α→List Value} {BL:β→List Value} {v v':Value} {xs:List α} {ys:List β} (h:aG w base e size en v xs) (h':aG w base' e' xE BL v' ys) (he:e≠e'):Apart v v':=by
 intro k h1 h2;obtain⟨c,fz,h3⟩:=zF h k h1;obtain⟨c',fz',h4⟩:=zF h' k h2;rw[h3]at h4;cases h4
 exact he rfl
theorem aG.fU {α:Type} {w:World} {base base':Nat} {e:TypeId} {size:Nat} {en:α→List Value} {v:Value} {xs:List α} (h:aG w base e size en v xs) (hb:base'≤base):aG w base' e size en v xs:=by
 refine⟨h.1,?_⟩;rcases h.2 with h0|⟨g,cap,cur,hv,h1,h2⟩
 ·exact .inl h0
 ·exact .inr ⟨g,cap,cur,hv,ae,h2⟩
def Grew (w w':World) (v v':Value):Prop:=
 (∃ g n cap,v=.slice (some ⟨g,0,none⟩) n cap∧v' = .slice (some ⟨g,0,none⟩) (n+1) cap)∨(w.grownBy w' none∧∀ k,v'.ownBlock=some k→w.heap.size≤k)
theorem ajD {P:Program} {w:World} {base:Nat} {t ty e:TypeId} {i:TypeInfo} {z:Value} (ht:P.underlying t=some (.slice e)) (hi:P.info? e=some i) (hz:i.zero=some z)
  {v:Value} {n:Nat} {xs:List Value} (hown:w.ownsRow base e i.size v n xs) {a:Addr} {c:Nat} {news:List Value} (hl:news.length=1*i.size)
  (hnews:∀ j u,news[j]? = some u→w.cell? (a.add j)=some u) (h1:∀ u∈news,u.oneCell' = true) (h63:n+1≤maxLen) (hbytes:(n+1)*i.bytes≤140737488355328)
  {v':Value} {w':World} (hr:(Builtin.append_ #[t,t] ty #[v,.slice (some a) 1 c]).run P w=.ok v' w'):Grew w w' v v':=by
 have acz:n+1≤9223372036854775807:=(by simp only[maxLen]at h63;omega);rcases hown.2 with ⟨rfl,rfl⟩|⟨g,cap,cur,rfl,hbg,hg,LP,hcm,hcs,acA⟩
 ·have hr2:=run_append_nil (P:=P) w t ty e i z ht hi hz a 1 c news hl hnews ae ae U7;exact abD
 ·by_cases hroom:n+1≤cap
  ·refine UK ?_;intro o8;have hr2:=run_append_room (P:=P) w t ty e i ht hi g n cap cur hg a 1 c news hl hnews h1 hroom o8;rw[hr2]at hr;cases hr
   exact .inl ⟨g,n,cap,rfl,rfl⟩
  ·refine UT ?_;intro holds;have hr2:=run_append_grow (P:=P) w t ty e i z ht hi hz ⟨g,0,none⟩ n cap xs hown.1 holds a 1 c news hl hnews ae ae (growslice_fits ae hbytes);exact abD
theorem Vv {α:Type} {en:α→List Value} {P:Program} {w0 wr:World} {ops:Array Oper} {rest:List Oper} {o:Oper} {a:Act} {Q:Exit→Act→World→Prop} {s x:Operand}
  {t e:TypeId} {size bytes:Nat} (T:eO P t e size bytes) {base:Nat} {v:Value} (xs:List α) (y:α) {cells:Array Value} {ty:TypeId}
  (hown:aG wr base e size en v xs) (bP:Below base w0 wr) (hbase:base≤w0.heap.size) (hbound:(xs.length+1)*bytes≤140737488355328)
  (h:∀ v' w1,aG w1 base e size en v' (xs++[y])→Below base w0 w1→wr.grownBy w1 v.ownBlock→(∀ k,v'.ownBlock=some k→v.ownBlock=some k∨wr.heap.size≤k)→Grew wr w1 v v'→wpList P ops Q rest (a.put o.dst v') w1)
  (hgd:o.guard=none:=by rfl) (ho:o.op=.call { callee:=.builtin .append,args:=#[s,x],argTypes:=#[t,t] }:=by rfl)
  (hs:a.eval s=v:=by rfl) (hx:a.eval x=.slice (some ⟨wr.heap.size,0,none⟩) 1 1:=by rfl)
  (hy:cells.toList=en y:=by rfl) (hlen:(en y).length=size:=by rfl) (hone:∀ u∈en y,u.oneCell' = true:=by simp[Qw,Qx,Qy,Value.oneCell']) :
  wpList P ops Q (o::rest) a (wr.alloc (.cells cells ty)):=by
 obtain⟨hu,⟨i,z,hi,hz,h1,h2,h3⟩,hp,oh⟩:=T;subst h1;subst h2;have hsz:=bP.size;have hn:xs.length+1≤maxLen:=by
  exact Uu
 have hnews:∀ j u,(en y)[j]? = some u→(wr.alloc (.cells cells ty)).cell? ((⟨wr.heap.size,0,none⟩:Addr).add j)=some u:=by
  exact Uq
 have hl:(en y).length=1*i.size:=Ir;refine wpList_plain hgd fun K hK=>?_
 obtain⟨v',w',hr,g1,g2,_⟩:=run_append_own (P:=P) (wr.alloc (.cells cells ty)) base t o.type e i z i.size i.bytes hu hi hz rfl rfl h3 hp v xs.length (xs.flatMap en) (Bv hown _) ⟨wr.heap.size,0,none⟩ 1 1 (en y) hl hnews hone hn hbound cO;have hcs:=ajD hu hi hz (Bv hown _) hl hnews hone hn hbound hr;have hblk:=VB hu hi hz (Bv hown _) hl hnews hone ae hn hbound hr;refine OC ?_;refine hK _ _ (h v' w' ?_ ?_ ?_ ?_ ?_)
 ·refine Lk ?_
  simpa using g1
 ·exact ab7
 ·exact abF
 ·intro k hk;rcases hblk k hk with h5|h5
  ·exact .inl h5
  ·simp at h5;exact .inr ae
 ·rcases hcs with h5|⟨h5,h6⟩
  ·exact .inl h5
  ·refine .inr ⟨⟨h5.os,h5.tape,h5.output,bQ aB h5.size,fun k hk hne=>(h5.block k cO hne).trans (zG wr _ k hk)⟩,fun k hk=>?_⟩;have:=h6 k hk;simp at this;omega
def setRow (w:World) (g:Nat):Nat→List Value→World
 | _,[]=>w
 | o,v::vs=>setRow (w.setCell ⟨g,o,none⟩ v) g (o+1) vs
def FI:List Value→Nat→List Value→List Value
 | cs,_,[]=>cs
 | cs,o,v::vs=>FI (cs.set o v) (o+1) vs
theorem ajE (as:List Value) (o:Nat) (bs cs vs:List Value) (hb:bs.length=vs.length) (ho:as.length=o):FI (as++bs++cs) o vs=as++vs++cs:=by
 induction vs generalizing as bs o with
 | nil=>
  obtain rfl:bs=[]:=pS.1 (by simpa using hb);simp[FI]
 | cons v vs ih=>
  cases bs with
  | nil=>simp at hb
  | cons b bs=>
   subst ho;rw[FI];have e:((as++(b::bs)++cs).set as.length v)=(as++[v])++bs++cs:=aB;rw[e,ih (as++[v]) (as.length+1) bs (by simpa using hb) aB];simp
theorem ajF {α:Type} {en:α→List Value} {size:Nat} (hen:∀ x,(en x).length=size) (xs:List α) (k:Nat) (hk:k < xs.length) (y:α):(xs.set k y).flatMap en=FI (xs.flatMap en) (k*size) (en y):=by
 have e1:xs.set k y=xs.take k++[y]++xs.drop (k+1):=(by rw[List.set_eq_take_append_cons_drop,if_pos hk];simp);have e2:xs=xs.take k++[xs[k]]++xs.drop (k+1):=aB;have e3:xs.flatMap en=(xs.take k).flatMap en++en xs[k]++(xs.drop (k+1)).flatMap en:=by
  have:=jA (List.flatMap en) e2;rw[this];simp only[zx,Dk,List.flatMap_nil,pT]
 rw[e1,e3,ajE _ _ _ _ _ (by rw[hen,hen]) (by rw[o7 hen,uC,Fx ae])];simp[zx]
theorem ade {w:World} {base:Nat} {e:TypeId} {size:Nat} {g n m cap:Nat} {cs:List Value} (o:Nat) (vs:List Value) (h:w.ownsRow base e size (.slice (some ⟨g,0,none⟩) n cap) m cs) (ho:o+vs.length≤cs.length) :
  (setRow w g o vs).ownsRow base e size (.slice (some ⟨g,0,none⟩) n cap) m (FI cs o vs):=by
 induction vs generalizing w o cs with
 | nil=>exact h
 | cons v vs ih=>
  rw[setRow,FI];simp only[dz]at ho;refine ih (o+1) ?_ (by rw[kD];omega);refine⟨by rw[kD];exact h.1,.inr ?_⟩;rcases h.2 with ⟨hv,_⟩|⟨g',cap',cur,hv,hb,hg,hle,hm,hs,iJ⟩
  ·cases hv
  ·cases hv
   refine⟨g,cap,cur.setIfInBounds o v,rfl,hb,?_,hle,hm,by simpa using hs,?_⟩
   ·simp[World.setCell,Di,hg]
   ·rw[Array.toList_setIfInBounds,List.take_set,← iJ]
theorem aG.setRow {α:Type} {w:World} {base:Nat} {e:TypeId} {size:Nat} {en:α→List Value} {g n cap:Nat} {xs:List α} (hen:∀ x,(en x).length=size) (h:aG w base e size en (.slice (some ⟨g,0,none⟩) n cap) xs) {k:Nat} (y:α) (hk:k < xs.length) :
  aG (setRow w g (k*size) (en y)) base e size en (.slice (some ⟨g,0,none⟩) n cap) (xs.set k y):=by
 unfold aG;rw[ajF hen xs k hk,kD];refine ade _ _ h ?_;rw[hen,o7 hen,← Nat.succ_mul];exact vL _ hk
theorem ajG (w:World) (g o:Nat) (vs:List Value):w.grownBy (setRow w g o vs) (some g):=by
 induction vs generalizing w o with
 | nil=>exact World.grownBy.refl _ _
 | cons v vs ih=>
  have h:=ih (w.setCell ⟨g,o,none⟩ v) (o+1);have hs:(w.setCell ⟨g,o,none⟩ v).heap.size=w.heap.size:=pR;refine⟨h.os,h.tape,h.output,by rw[← hs];exact h.size,fun k hk hne=>?_⟩;rw[setRow];exact(h.block k (by rw[hs];exact hk) hne).trans (dN w _ v k (fun e=>hne (by rw[e])))
theorem Below.ajH {w w':World} (h:w.grownBy w' none):Below w.heap.size w w':=⟨h.os,h.tape,h.output,h.size,fun k hk=>h.block k hk aB⟩
theorem aG.ajI {α:Type} {w w1:World} {base:Nat} {e:TypeId} {size:Nat} {en:α→List Value} {u:Value} {xs:List α} (h:aG w base e size en u xs) (hg:w.grownBy w1 none):aG w1 base e size en u xs:=h.keep (Below.ajH hg) af
theorem LU {α:Type} (f:Nat→α) (m k:Nat) (h:k < ((List.range m).map f).length):((List.range m).map f)[k]=f k:=aB
theorem adf {α:Type} (f:Nat→α) (m:Nat):(List.range (m+1)).map f=(List.range m).map f++[f m]:=by simp[List.range_succ]
def qx (e e2:TypeId) (w w':World):Prop:=∀ (k:Nat) (C:Array Value) (T:TypeId) (fz:Nat×Nat),w.heap[k]? = some (Obj.cells C T fz)→T≠e→T≠e2→w'.heap[k]? = w.heap[k]?
theorem qx.refl (e e2:TypeId) (w:World):qx e e2 w w:=fun _ _ _ _ _ _ _=>rfl
theorem VC {w:World} {k:Nat} {o:Obj} (h:w.heap[k]? = some o):k < w.heap.size:=by
 obtain⟨h1,-⟩:=Array.getElem?_eq_some_iff.1 h;exact h1
theorem qx.keep {e e2:TypeId} {w wr w':World} (h:qx e e2 w wr) (hb:Below wr.heap.size wr w'):qx e e2 w w':=fun k C T fz hk h1 h2=>by
 have hw:=h k C T fz hk h1 h2;exact(hb.block k (VC (hw.trans hk))).trans hw
theorem qx.grown {α:Type} {e e2 e':TypeId} {w wr w':World} {base size:Nat} {en:α→List Value} {v:Value} {xs:List α} (h:qx e e2 w wr) (ho:aG wr base e' size en v xs) (he:e' = e∨e' = e2) (hg:wr.grownBy w' v.ownBlock):qx e e2 w w':=fun k C T fz hk h1 h2=>by
 have hw:=h k C T fz hk h1 h2;refine(hg.block k (VC (hw.trans hk)) (fun hc=>?_)).trans hw;obtain⟨c,fz',h3⟩:=zF ho k (by first|exact hc|exact hc.symm);rw[hw,hk]at h3;cases h3
 rcases he with h4|h4
 ·exact h1 h4
 ·exact h2 h4
section
variable {α:Type} (en:α→List Value) (size:Nat) (e e2:TypeId) (base m:Nat) (vs:Nat→Value) (kK:Value) (w0:World) (mk:Nat→Nat→α) (n:Nat→Nat)
def marksOf (k c:Nat):List α:=(List.range c).map (mk k)
theorem VD (k c:Nat):marksOf mk k (c+1)=marksOf mk k c++[mk k c]:=adf _ _
theorem iX (k c:Nat):(marksOf mk k c).length=c:=by simp[marksOf]
theorem ajJ (k c d:Nat):∃ r,marksOf mk k (c+d)=marksOf mk k c++r:=by
 induction d with
 | zero=>exact⟨[],aB⟩
 | succ d ih=>
  obtain⟨r,hr⟩:=ih;exact⟨r++[mk k (c+d)],by rw[← kE,VD,hr,o6]⟩
theorem IU (k c i:Nat) (h:i < (marksOf mk k c).length):(marksOf mk k c)[i]=mk k i:=by simp[marksOf]
structure fw (X:Nat→List α) (wr:World):Prop where
 cL:Below base w0 wr
 own:∀ j,j < m→aG wr base e size en (vs j) (X j)
 ls:aG wr base e2 1 qq kK ((List.range m).map vs)
 qV:qx e e2 w0 wr
structure kZ (k i:Nat) (X:Nat→List α):Prop where
 len:∀ j,j < m→(X j).length=n j
 done:∀ j,j < k→X j=marksOf mk j (n j)
 part:(X k).take i=marksOf mk k i
structure mS (k:Nat) (G:Nat→Value) (jZ:Value) (wr:World):Prop where
 a:fw en size e e2 base m vs kK w0 (fun j=>marksOf mk j (n j)) wr
 xI:∀ j,j < k→aG wr base e size en (G j) (marksOf mk j (n j+64))
 FK:∀ j,j < k→∀ j',k≤j'→j' < m→Apart (vs j') (G j)
 gs:aG wr base e2 1 qq jZ ((List.range k).map G)
 FL:Apart jZ kK
structure vX (k:Nat) (G:Nat→Value) (jZ g:Value) (i:Nat) (wr:World):Prop where
 a:fw en size e e2 base m vs kK w0 (fun j=>marksOf mk j (n j)) wr
 xI:∀ j,j < k→aG wr base e size en (G j) (marksOf mk j (n j+64))
 FK:∀ j,j < k→∀ j',k < j'→j' < m→Apart (vs j') (G j)
 gs:aG wr base e2 1 qq jZ ((List.range k).map G)
 FL:Apart jZ kK
 cur:aG wr base e size en g (marksOf mk k (n k+i))
 c1:∀ j,j < m→j≠k→Apart g (vs j)
 c2:∀ j,j < k→Apart g (G j)
 c3:Apart g (vs k)∨∃ b cap,vs k=.slice (some ⟨b,0,none⟩) (n k) cap∧g=.slice (some ⟨b,0,none⟩) (n k+i) cap
end
section
variable {α:Type} {en:α→List Value} {size:Nat} {e e2:TypeId} {base m:Nat} {vs:Nat→Value} {kK:Value} {w0:World} {mk:Nat→Nat→α} {n:Nat→Nat}
theorem fw.keep {X:Nat→List α} {wr w':World} (h:fw en size e e2 base m vs kK w0 X wr) (hB:base≤w0.heap.size) (hb:Below wr.heap.size wr w'):fw en size e e2 base m vs kK w0 X w':=
 ⟨aH h.cL hb hB,fun j hj=>(h.own j hj).keep hb af,h.ls.keep hb af,h.qV.keep hb⟩
theorem fw.drew {X:Nat→List α} {wr:World} (h:fw en size e e2 base m vs kK w0 X wr):fw en size e e2 base m vs kK w0 X wr.drew:=
 ⟨h.cL.drew,fun j hj=>(h.own j hj).drew,h.ls.drew,fun k C T fz hk h1 h2=>h.qV k C T fz hk h1 h2⟩
theorem fw.store {X:Nat→List α} {wr:World} (h:fw en size e e2 base m vs kK w0 X wr) (hap:∀ i j,i < m→j < m→i≠j→Apart (vs i) (vs j)) (hne:e≠e2) (hen:∀ x,(en x).length=size)
  {k i g c cap:Nat} (hk:k < m) (hv:vs k=.slice (some ⟨g,0,none⟩) c cap) (hi:i < (X k).length) (y:α):fw en size e e2 base m vs kK w0 (fun j=>if j=k then (X k).set i y else X j) (setRow wr g (i*size) (en y)):=by
 have hg:=ajG wr g (i*size) (en y);have FM:(vs k).ownBlock=some g:=(by rw[hv];rfl);have hgb:=(h.own k hk).lt g FM;have VE:wr.grownBy (Go.Proofs.YtfflljgnpfldfaaGreatDoor.setRow wr g (i*size) (en y)) (vs k).ownBlock:=(by rw[FM];exact hg);refine⟨h.cL.grown hg (bQ (gV (Bx hgb.1 hgb.2)) af) (fun x hx=>by cases hx;exact hgb.1),fun j hj=>?_,?_,h.qV.grown (h.own k hk) (.inl rfl) VE⟩
 ·by_cases hjk:j=k
  ·subst hjk;simp only[kG];have:=h.own j hk;rw[hv]at this ⊢;exact aG.setRow hen this y hi
  ·simp only[if_neg hjk];exact(h.own j hj).other VE (hap k j hk hj (Ne.symm hjk))
 ·exact h.ls.other VE ((h.own k hk).kind h.ls hne)
theorem fw.room {X:Nat→List α} {wr:World} (h:fw en size e e2 base m vs kK w0 X wr) (hen:∀ x,(en x).length=size)
  {k i g c cap:Nat} (hk:k < m) (hv:vs k=.slice (some ⟨g,0,none⟩) c cap) (hi:i < (X k).length) {j:Nat} (hj:j < size):∃ u,wr.cell? ⟨g,i*size+j,none⟩=some u:=by
 have ho:=h.own k hk;rw[hv]at ho;have hlt:i*size+j < ((X k).flatMap en).length:=by
  rw[o7 hen];exact iH (by rw[Nat.succ_mul];omega) (vL size (show i+1≤_ from hi))
 obtain⟨b,o,e1,h1⟩:=Sl.at' ho.sl.2 (i*size+j) hlt;cases e1
 rw[kF]at h1;exact⟨_,h1.trans (kC hlt)⟩
theorem fw.CY {bl ol cl:Nat} {X:Nat→List α} {wr:World} (h:fw en size e e2 base m vs (.slice (some ⟨bl,ol,none⟩) m cl) w0 X wr) {k:Nat} (hk:k < m):wr.cell? ⟨bl,ol+k,none⟩=some (vs k):=by
 obtain⟨IK,IL,BJ,hbl,hcl⟩:=bA.cell1 h.ls.sl.2 id (fun _=>rfl) (k:=k) zo;cases BJ
 rw[LU]at hcl;exact hcl
theorem fw.IQ {al:Option Addr} {cl:Nat} {X:Nat→List α} {wr:World} (h:fw en size e e2 base m vs (.slice al m cl) w0 X wr) {k:Nat} (hk:k < m):∃ bl ol,al=some ⟨bl,ol,none⟩∧wr.cell? ⟨bl,ol+k,none⟩=some (vs k):=by
 obtain⟨bl,ol,rfl,hbl,hcl⟩:=bA.cell1 h.ls.sl.2 id (fun _=>rfl) (k:=k) zo;exact⟨bl,ol,rfl,h.CY hk⟩
theorem mS.IP {al:Option Addr} {c cl q:Nat} {G:Nat→Value} {wr:World} (h:mS en size e e2 base m vs kK w0 mk n q G (.slice al c cl) wr) {k:Nat} (hk:k < q):∃ bl ol,al=some ⟨bl,ol,none⟩∧wr.cell? ⟨bl,ol+k,none⟩=some (G k):=by
 obtain⟨bl,ol,rfl,hbl,hcl⟩:=bA.cell1 h.gs.sl.2 id (fun _=>rfl) (k:=k) zo;rw[LU]at hcl;exact⟨bl,ol,rfl,hcl⟩
theorem kZ.start {xs:Nat→List α} (h:∀ j,j < m→(xs j).length=n j):kZ m mk n 0 0 xs:=⟨h,fun j hj=>ae,by simp[marksOf]⟩
theorem kZ.next {k i:Nat} {X:Nat→List α} (h:kZ m mk n k i X) (hk:k < m) (hi:i < n k):kZ m mk n k (i+1) (fun j=>if j=k then (X k).set i (mk k i) else X j):=by
 have hlen:=h.len k hk;refine⟨fun j hj=>?_,fun j hj=>?_,?_⟩
 ·by_cases hjk:j=k
  ·subst hjk;simpa using hlen
  ·simpa [hjk]using h.len j hj
 ·have hjk:j≠k:=by omega
  simpa [hjk]using h.done j hj
 ·simp only[kG];rw[VD,← h.part,Bo (by rw[kD];omega),List.take_set_of_le af];simp
theorem kZ.again {k i:Nat} {X:Nat→List α} (y:α):(fun j=>if j=k then ((fun j=>if j=k then (X k).set i y else X j) k).set i y else (fun j=>if j=k then (X k).set i y else X j) j)=(fun j=>if j=k then (X k).set i y else X j):=by
 funext j
 by_cases hjk:j=k
 ·subst hjk;simp
 ·simp[hjk]
theorem kZ.row {k:Nat} {X:Nat→List α} (h:kZ m mk n k (n k) X) (hk:k < m):kZ m mk n (k+1) 0 X:=by
 refine⟨h.len,fun j hj=>?_,by simp[marksOf]⟩;by_cases hjk:j=k
 ·subst hjk;rw[← h.part,IA (by rw[h.len j hk];exact af)]
 ·exact h.done j ae
theorem mS.start {i:Nat} {X:Nat→List α} {wr:World} (h:fw en size e e2 base m vs kK w0 X wr) (hp:kZ m mk n m i X) (G:Nat→Value):mS en size e e2 base m vs kK w0 mk n 0 G (.slice none 0 0) wr:=
 ⟨⟨h.cL,fun j hj=>by rw[← hp.done j hj];exact h.own j hj,h.ls,h.qV⟩,fun j hj=>ae,fun j hj=>ae,aG.nil _ _ _ _ _,Apart.nil _⟩
theorem mS.enter {k:Nat} {G:Nat→Value} {jZ:Value} {wr:World} (h:mS en size e e2 base m vs kK w0 mk n k G jZ wr) (hap:∀ i j,i < m→j < m→i≠j→Apart (vs i) (vs j)) (hk:k < m):vX en size e e2 base m vs kK w0 mk n k G jZ (vs k) 0 wr:=by
 refine⟨h.a,h.xI,fun j hj j' h1 h2=>h.FK j hj j' ae h2,h.gs,h.FL,h.a.own k hk,fun j hj hjk=>hap k j hk hj (Ne.symm hjk),fun j hj=>h.FK j hj k af hk,?_⟩;have ho:=h.a.own k hk;obtain⟨a,cap,hv,_⟩:=ho.shape;rcases ho.2 with ⟨hv0,_⟩|⟨g,cap',cur,eT,_⟩
 ·left;rw[hv0];exact Apart.nil _
 ·right
  rw[iX]at eT;exact⟨g,cap',eT,eT⟩
theorem vX.keep {k i:Nat} {G:Nat→Value} {jZ g:Value} {wr w':World} (h:vX en size e e2 base m vs kK w0 mk n k G jZ g i wr) (hB:base≤w0.heap.size) (hb:Below wr.heap.size wr w'):vX en size e e2 base m vs kK w0 mk n k G jZ g i w':=
 ⟨h.a.keep hB hb,fun j hj=>(h.xI j hj).keep hb af,h.FK,h.gs.keep hb af,h.FL,h.cur.keep hb af,h.c1,h.c2,h.c3⟩
theorem mS.keep {k:Nat} {G:Nat→Value} {jZ:Value} {wr w':World} (h:mS en size e e2 base m vs kK w0 mk n k G jZ wr) (hB:base≤w0.heap.size) (hb:Below wr.heap.size wr w'):mS en size e e2 base m vs kK w0 mk n k G jZ w':=
 ⟨h.a.keep hB hb,fun j hj=>(h.xI j hj).keep hb af,h.FK,h.gs.keep hb af,h.FL⟩
theorem vX.step {k i:Nat} {G:Nat→Value} {jZ g v':Value} {wr w1:World} (h:vX en size e e2 base m vs kK w0 mk n k G jZ g i wr) (hne:e≠e2) (hen:∀ x,(en x).length=size) (hk:k < m)
  (ho:aG w1 base e size en v' (marksOf mk k (n k+i)++[mk k (n k+i)])) (hb:Below base w0 w1) (hg:wr.grownBy w1 g.ownBlock) (hv:∀ x,v'.ownBlock=some x→g.ownBlock=some x∨wr.heap.size≤x) (hc:Grew wr w1 g v') :
  vX en size e e2 base m vs kK w0 mk n k G jZ v' (i+1) w1:=by
 rw[← VD]at ho;have adg:aG w1 base e size en (vs k) (marksOf mk k (n k))∧(Apart v' (vs k)∨∃ b cap,vs k=.slice (some ⟨b,0,none⟩) (n k) cap∧v' = .slice (some ⟨b,0,none⟩) (n k+(i+1)) cap):=by
  have hold:=h.a.own k hk;rcases h.c3 with h3|⟨b,cap,h3,h4⟩
  ·exact⟨hold.other hg h3,.inl (Apart.app h3 hold hv)⟩
  ·rcases hc with ⟨b',n',cap',h5,h6⟩|⟨h5,h6⟩
   ·rw[h4]at h5;cases h5
    obtain⟨r,hr⟩:=ajJ mk k (n k) (i+1);rw[kE,hr,h6]at ho;refine⟨?_,.inr ⟨b,cap,h3,h6⟩⟩;have:=aG.pre hen ho;rw[iX]at this;rw[h3];exact this
   ·refine⟨hold.ajI h5,.inl fun x hx1 hx2=>?_⟩;have:=h6 x hx1;have:=(hold.lt x hx2).2;omega
 refine⟨⟨hb,fun j hj=>?_,h.a.ls.other hg (h.cur.kind h.a.ls hne),h.a.qV.grown h.cur (.inl rfl) hg⟩,fun j hj=>(h.xI j hj).other hg (h.c2 j hj),h.FK,h.gs.other hg (h.cur.kind h.gs hne),h.FL,ho,fun j hj hjk=>Apart.app (h.c1 j hj hjk) (h.a.own j hj) hv,fun j hj=>Apart.app (h.c2 j hj) (h.xI j hj) hv,adg.2⟩;by_cases hjk:j=k
 ·subst hjk;exact adg.1
 ·exact(h.a.own j hj).other hg (h.c1 j hj hjk)
theorem vX.leave {k:Nat} {G:Nat→Value} {jZ g gs':Value} {wr w1:World} (h:vX en size e e2 base m vs kK w0 mk n k G jZ g 64 wr) (hne:e≠e2)
  (ho:aG w1 base e2 1 qq gs' ((List.range k).map G++[g])) (hb:Below base w0 w1) (hg:wr.grownBy w1 jZ.ownBlock) (hv:∀ x,gs'.ownBlock=some x→jZ.ownBlock=some x∨wr.heap.size≤x) :
  mS en size e e2 base m vs kK w0 mk n (k+1) (fun j=>if j=k then g else G j) gs' w1:=by
 refine⟨⟨hb,fun j hj=>(h.a.own j hj).other hg ((h.a.own j hj).kind h.gs hne).symm,h.a.ls.other hg h.FL,h.a.qV.grown h.gs (.inr rfl) hg⟩,fun j hj=>?_,fun j hj j' h1 h2=>?_,?_,Apart.app h.FL h.a.ls hv⟩
 ·by_cases hjk:j=k
  ·subst hjk;simp only[kG];exact h.cur.other hg (h.cur.kind h.gs hne).symm
  ·simp only[if_neg hjk];exact(h.xI j ae).other hg ((h.xI j ae).kind h.gs hne).symm
 ·by_cases hjk:j=k
  ·subst hjk;simp only[kG];exact(h.c1 j' h2 ae).symm
  ·simp only[if_neg hjk];exact h.FK j ae j' ae h2
 ·rw[adf];simp only[kG];have:(List.range k).map (fun j=>if j=k then g else G j)=(List.range k).map G:=by
   refine List.map_congr_left fun j hj=>?_
   rw[if_neg (by have:=List.mem_range.1 hj;omega)]
  rw[this];exact ho
end
end Go.Proofs.YtfflljgnpfldfaaGreatDoor
