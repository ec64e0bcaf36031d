/-
  A region that draws its order and ends in a store: an operation for which the store waits by way of another.
-/
import Derived.Test.YtfflljgnpfldfaaGreatDoorListTxt
set_option linter.all false
set_option maxHeartbeats 128000000
namespace Go.Proofs.YtfflljgnpfldfaaGreatDoor
open Go.RowKit
theorem ai.range {w:World} {k:Nat} {cs:Array Value} (h:ai w k cs):w.rangeAt k 0 cs.toList:=fun j v hv=>by
 rw[kF];exact h.cell j v (by simpa using hv)
theorem ai.row {w:World} {k:Nat} {cs:Array Value} (h:ai w k cs) (C:Array Value):ai (w.setRow k C) k C:=by
 obtain⟨T,h⟩:=h;exact⟨T,setRow_heap w k cs C T (0,0) h⟩
theorem gK (w:World) (g k:Nat) (C:Array Value) (h:k≠g):(w.setRow g C).heap[k]? = w.heap[k]?:=by
 simp only[World.setRow,Di];rw[if_neg ae]
theorem ai.A9 {w:World} {k g:Nat} {cs:Array Value} (h:ai w k cs) (hg:k≠g) (C:Array Value):ai (w.setRow g C) k cs:=by
 obtain⟨T,h⟩:=h;exact⟨T,by rw[gK _ _ _ _ hg];exact h⟩
theorem pL {B:Nat} {a w:World} (h:Below B a w) {g:Nat} (hg:B≤g) (C:Array Value):Below B a (w.setRow g C):=
 h.trans ⟨rfl,rfl,rfl,qX,fun k hk=>gK _ _ _ _ ae⟩
theorem ai.put {w:World} {k:Nat} {cs:Array Value} (h:ai w k cs) (j:Nat) (v:Value):ai (w.setCell ⟨k,j,none⟩ v) k (cs.setIfInBounds j v):=by
 obtain⟨T,h⟩:=h;refine⟨T,?_⟩;exact Pd
theorem fo {P:Program} {w:World} {k:Nat} {cs:Array Value} (h:ai w k cs) (ty:TypeId) (d:TypeDesc) (hu:P.underlying ty=some d) (hd:d.isRow=true) (hi:(P.info? ty).map (·.size)=some cs.size) :
  (loadVar ty ⟨k,0,none⟩).run P w=.ok (.agg cs) w:=by
 have:=run_loadVar_mid (P:=P) w k 0 ty cs.toList d h.range hu hd (by simpa using hi)
 simpa using this
theorem fG {P:Program} {ops:Array Oper} {rest:List Oper} {o:Oper} {a:Act} {w:World} {Q:Exit→Act→World→Prop} {k:Nat} {cs:Array Value} (hb:ai w k cs) (ty:TypeId) (x:Operand) {d:TypeDesc}
  (hu:P.underlying ty=some d) (hi:(P.info? ty).map (·.size)=some cs.size)
  (h:wpList P ops Q rest (a.put o.dst (.agg cs)) w)
  (hgd:o.guard=none:=by rfl) (ho:o.op=.load ty x:=by rfl) (hx:a.eval x=.pointer (some ⟨k,0,none⟩):=by rfl) (hd:d.isRow=true:=by rfl):wpList P ops Q (o::rest) a w:=by
 refine wpList_load_mid hgd ty x ho k 0 hx cs.toList d hb.range hu hd (by simpa using hi) ?_
 simpa using h
theorem adh {P:Program} {ops:Array Oper} {rest:List Oper} {o:Oper} {a:Act} {w:World} {Q:Exit→Act→World→Prop} {k:Nat} {cs:Array Value} (hb:ai w k cs) (ty:TypeId) (x:Operand) {d:TypeDesc}
  (hu:P.underlying ty=some d) (hi:(P.info? ty).map (·.size)=some cs.size)
  (h:wpList P ops Q rest (a.put o.dst (.agg cs)) w)
  (hgd:Region.wanted o (yielded ops a.tmps)=true:=by rfl) (ho:o.op=.load ty x:=by rfl) (hx:a.eval x=.pointer (some ⟨k,0,none⟩):=by rfl) (hd:d.isRow=true:=by rfl):wpList P ops Q (o::rest) a w:=by
 refine wpList_step fun K hK=>?_
 rw[if_pos hgd];refine ace ?_;exact hK _ _ h
theorem iC {P:Program} {ops:Array Oper} {rest:List Oper} {o:Oper} {a:Act} {w:World} {Q:Exit→Act→World→Prop} {k:Nat} {old cs:Array Value} (hb:ai w k old) (ty:TypeId) (x y:Operand)
  (hi:(P.info? ty).map (·.size)=some cs.size) (hs:old.size=cs.size) (h1:cs.all (·.oneCell')=true)
  (h:wpList P ops Q rest (a.put o.dst undef) (w.setRow k cs))
  (hgd:o.guard=none:=by rfl) (ho:o.op=.store ty x y:=by rfl) (hx:a.eval x=.pointer (some ⟨k,0,none⟩):=by rfl) (hy:a.eval y=.agg cs:=by rfl):wpList P ops Q (o::rest) a w:=by
 obtain⟨T,hb⟩:=hb;refine wpList_plain hgd fun _ hK=>?_
 refine Uj ?_;exact hK _ _ h
theorem eX {P:Program} {ops:Array Oper} {rest:List Oper} {o o2:Oper} {a:Act} {w:World} {Q:Exit→Act→World→Prop} {Z cs:Array Value} (ty:TypeId) (x y:Operand)
  (hz:(P.info? ty).map (fun i=>(i.zero,i.size))=some (some (.agg Z),cs.size)) (hs:Z.size=cs.size) (h1:cs.all (·.oneCell')=true)
  (h:wpList P ops Q rest ((a.put o.dst (.pointer (some ⟨w.heap.size,0,none⟩))).put o2.dst undef) (w.alloc (.cells cs ty)))
  (hgd:o.guard=none:=by rfl) (ho:o.op=.alloc ty:=by rfl) (ajK:o2.guard=none:=by rfl) (ho2:o2.op=.store ty x y:=by rfl)
  (hx:(a.put o.dst (.pointer (some ⟨w.heap.size,0,none⟩))).eval x=.pointer (some ⟨w.heap.size,0,none⟩):=by rfl) (hy:(a.put o.dst (.pointer (some ⟨w.heap.size,0,none⟩))).eval y=.agg cs:=by rfl):wpList P ops Q (o::o2::rest) a w:=by
 obtain⟨z1,z2⟩:=zero_of_info hz;refine wpList_plain hgd fun _ hK=>?_
 unfold Oper.wp execOp;simp only[ho,Instr.alloc,rT,z1,Fu,newVar,newRow,Value.cells,Sem.run_pure];refine hK _ _ ?_;refine iC (k:=w.heap.size) (old:=Z) (cs:=cs) ?_ ty x y z2 hs h1 ?_ ajK ho2 hx hy
 ·exact ai.new w Z ty
 ·have e:(w.alloc (.cells Z ty)).setRow w.heap.size cs=w.alloc (.cells cs ty):=World.setRow_alloc_new w Z cs ty;rw[← e]at h;exact h
theorem aG.vo {α:Type} {w w':World} {base:Nat} {e:TypeId} {size:Nat} {en:α→List Value} {v:Value} {xs:List α} (h:aG w base e size en v xs) (hb:∀ k,v.ownBlock=some k→w'.heap[k]? = w.heap[k]?):aG w' base e size en v xs:=by
 refine⟨h.1,?_⟩;rcases h.2 with h0|⟨g,cap,cur,rfl,h1,h2,h3⟩
 ·exact .inl h0
 ·exact .inr ⟨g,cap,cur,rfl,h1,by rw[hb g rfl];exact h2,h3⟩
def Row (n:Nat):Type:={ l:List Value // l.length=n }
def Row.en {n:Nat} (r:Row n):List Value:=r.1
theorem Row.pU {n:Nat} (r:Row n):r.en.length=n:=r.2
instance Row.inh (n:Nat):Inhabited (Row n):=⟨⟨List.replicate n undef,rQ⟩⟩
inductive iM {α β:Type} (R:α→β→Prop):List α→List β→Prop
 | nil:iM R [] []
 | cons {x:α} {y:β} {xs:List α} {ys:List β}:R x y→iM R xs ys→iM R (x::xs) (y::ys)
theorem iM.len {α β:Type} {R:α→β→Prop} {xs:List α} {ys:List β} (h:iM R xs ys):xs.length=ys.length:=by
 induction h with
 | nil=>rfl
 | cons _ _ ih=>simp[ih]
theorem iM.mono {α β:Type} {R S:α→β→Prop} {xs:List α} {ys:List β} (h:iM R xs ys) (hm:∀ x y,R x y→S x y):iM S xs ys:=by
 induction h with
 | nil=>exact .nil
 | cons a _ ih=>exact .cons (hm _ _ a) ih
theorem iM.get {α β:Type} {R:α→β→Prop} {xs:List α} {ys:List β} (h:iM R xs ys) {k:Nat} (hk:k < xs.length) (pW:k < ys.length):R xs[k] ys[k]:=by
 induction h generalizing k with
 | nil=>simp at hk
 | cons a _ ih=>
  cases k with
  | zero=>exact a
  | succ k=>exact ih zo (by simpa using pW)
theorem iM.app {α β:Type} {R:α→β→Prop} {xs us:List α} {ys vs:List β} (h:iM R xs ys) (h':iM R us vs):iM R (xs++us) (ys++vs):=by
 induction h with
 | nil=>exact h'
 | cons a _ ih=>exact .cons a ih
theorem iM.snoc {α β:Type} {R:α→β→Prop} {xs:List α} {ys:List β} (h:iM R xs ys) {x:α} {y:β} (a:R x y):iM R (xs++[x]) (ys++[y]):=h.app (.cons a .nil)
theorem iM.set {α β:Type} {R:α→β→Prop} {xs:List α} {ys:List β} (h:iM R xs ys) {k:Nat} {x:α} {y:β} (a:R x y):iM R (xs.set k x) (ys.set k y):=by
 induction h generalizing k with
 | nil=>exact .nil
 | cons b c ih=>
  cases k with
  | zero=>exact .cons a c
  | succ k=>exact .cons b ih
def jY {α:Type} (rd:World→α→List Value→Prop):Prop:=∀ (w w':World) (x:α) (cs:List Value),rd w x cs→Below w.heap.size w w'→rd w' x cs
def kI {α:Type} (rd:World→α→List Value→Prop) (e:TypeId):Prop:=∀ (w w':World) (x:α) (cs:List Value) (k:Nat) (C:Array Value) (fz:Nat×Nat),rd w x cs→w.heap[k]? = some (.cells C e fz)→w.heap.size≤w'.heap.size →
 (∀ b,b < w.heap.size→b≠k→w'.heap[b]? = w.heap[b]?)→rd w' x cs
def ei {α:Type} (w:World) (rd:World→α→List Value→Prop) (size:Nat) (a:Option Addr) (cap:Nat) (xs:List α):Prop:=
 ∃ rows:List (Row size),bA w Row.en size a cap rows∧iM (fun x (r:Row size)=>rd w x r.1) xs rows
section
variable {α:Type} {rd:World→α→List Value→Prop} {size:Nat} {a:Option Addr} {cap:Nat} {xs:List α} {w w':World}
theorem ei.keep (h:ei w rd size a cap xs) (hl:jY rd) (hb:Below w.heap.size w w'):ei w' rd size a cap xs:=by
 obtain⟨rows,h1,h2⟩:=h;exact⟨rows,h1.keep hb af,h2.mono fun x r hr=>hl _ _ _ _ hr hb⟩
theorem ei.le (h:ei w rd size a cap xs):xs.length≤cap:=by
 obtain⟨rows,h1,h2⟩:=h;have:=h2.len;have:=h1.len.1;omega
theorem ei.nil (w:World) (rd:World→α→List Value→Prop) (size:Nat):ei w rd size none 0 ([]:List α):=⟨[],bA.nil w Row.en size,.nil⟩
theorem ei.at (h:ei w rd size a cap xs) (hs:0 < size) {k:Nat} (hk:k < xs.length) :
  ∃ b o,a=some ⟨b,o,none⟩∧b < w.heap.size∧∃ cs:List Value,cs.length=size∧rd w xs[k] cs∧w.rangeAt b (o+k*size) cs:=by
 obtain⟨rows,h1,h2⟩:=h;have pW:k < rows.length:=(by rw[← h2.len];exact hk);obtain⟨b,o,rfl,hb,hc⟩:=bA.cells h1 Row.pU hs pW;refine⟨b,o,rfl,hb,rows[k].1,rows[k].2,h2.get hk pW,fun j v hv=>?_⟩;have hj:j < size:=by
  have:=(zt.1 hv).1;rw[rows[k].2]at this;exact this
 rw[kE,hc j hj];exact hv
def aZ (w:World) (base:Nat) (e:TypeId) (rd:World→α→List Value→Prop) (size:Nat) (v:Value) (xs:List α):Prop:=
 ∃ rows:List (Row size),aG w base e size Row.en v rows∧iM (fun x (r:Row size)=>rd w x r.1) xs rows
variable {base:Nat} {e:TypeId} {v:Value}
theorem aZ.keep (h:aZ w base e rd size v xs) (hl:jY rd) (hb:Below w.heap.size w w'):aZ w' base e rd size v xs:=by
 obtain⟨rows,h1,h2⟩:=h;exact⟨rows,h1.keep hb af,h2.mono fun x r hr=>hl _ _ _ _ hr hb⟩
theorem aZ.nil (w:World) (base:Nat) (e:TypeId) (rd:World→α→List Value→Prop) (size:Nat):aZ w base e rd size (.slice none 0 0) ([]:List α):=⟨[],aG.nil _ _ _ _ _,.nil⟩
theorem aZ.shape (h:aZ w base e rd size v xs):∃ a cap,v=.slice a xs.length cap∧ei w rd size a cap xs:=by
 obtain⟨rows,h1,h2⟩:=h;obtain⟨a,cap,rfl,hs⟩:=h1.shape;exact⟨a,cap,by rw[h2.len],rows,hs,h2⟩
theorem aZ.fU {base':Nat} (h:aZ w base e rd size v xs) (hb:base'≤base):aZ w base' e rd size v xs:=by
 obtain⟨rows,h1,h2⟩:=h;exact⟨rows,h1.fU hb,h2⟩
end
theorem xW {α:Type} {rd:World→α→List Value→Prop} (hl:jY rd) {P:Program} {w0 wr:World} {ops:Array Oper} {rest:List Oper} {o:Oper} {a:Act} {Q:Exit→Act→World→Prop} {s x:Operand}
  {t e:TypeId} {size bytes:Nat} (T:eO P t e size bytes) {base:Nat} {v:Value} (xs:List α) (y:α) {cells:Array Value} {ty:TypeId}
  (hown:aZ wr base e rd size v xs) (bP:Below base w0 wr) (hbase:base≤w0.heap.size) (hbound:(xs.length+1)*bytes≤140737488355328)
  (ep:rd wr y cells.toList) (hsz:cells.size=size) (h1:cells.all (·.oneCell')=true)
  (hap:kI rd e)
  (h:∀ v' w1,aZ w1 base e rd size v' (xs++[y])→Below base w0 w1→wr.grownBy w1 v.ownBlock→wpList P ops Q rest (a.put o.dst v') w1)
  (hgd:o.guard=none:=by rfl) (ho:o.op=.call { callee:=.builtin .append,args:=#[s,x],argTypes:=#[t,t] }:=by rfl)
  (hs:a.eval s=v:=by rfl) (hx:a.eval x=.slice (some ⟨wr.heap.size,0,none⟩) 1 1:=by rfl) :
  wpList P ops Q (o::rest) a (wr.alloc (.cells cells ty)):=by
 obtain⟨rows,hr1,hr2⟩:=hown;have hlen:=hr2.len;have hcl:cells.toList.length=size:=(by rw[Bu,hsz]);refine iL (en:=Row.en) T rows (⟨cells.toList,hcl⟩:Row size) hr1 bP hbase (by rw[← hlen];exact hbound) ?_ hgd ho hs hx rfl hcl
  (fun u hu=>(LF.1 h1) u (Array.mem_toList_iff.1 hu))
 intro v' w1 ho1 hb1 hg _;refine h v' w1 ⟨_,ho1,?_⟩ hb1 hg;have hk:∀ z cs,rd wr z cs→rd w1 z cs:=fun z cs hz=>by
  cases hv:v.ownBlock with
  | none=>exact hl _ _ _ _ hz ⟨hg.os,hg.tape,hg.output,hg.size,fun k hk=>hg.block k hk (by rw[hv];simp)⟩
  | some k=>
   obtain⟨C,fz,ij⟩:=zF hr1 k hv;exact hap wr w1 z cs k C fz hz ij hg.size fun b hb hne=>hg.block b hb (by rw[hv];simpa using hne)
 exact(hr2.mono fun z r hz=>hk z _ hz).snoc (hk y _ ep)
theorem ael {P:Program} {ops:Array Oper} {o:Oper} {a:Act} {w:World} {K:Act→World→Prop} {Q:Exit→Act→World→Prop} {E:Prop} {k:Nat} {cs:Array Value} (hb:ai w k cs) (ty:TypeId) (x:Operand) {d:TypeDesc}
  (hu:P.underlying ty=some d) (hi:(P.info? ty).map (·.size)=some cs.size)
  (h:K (a.put o.dst (.agg cs)) w)
  (hgd:o.guard=none:=by rfl) (ho:o.op=.load ty x:=by rfl) (hx:a.eval x=.pointer (some ⟨k,0,none⟩):=by rfl) (hd:d.isRow=true:=by rfl) :
  if Region.wanted o (yielded ops a.tmps)=true then Oper.wp P o a w K Q else E:=by
 refine Ia ?_;refine ace ?_;exact h
theorem Q4 {α:Type} {rd:World→α→List Value→Prop} (hl:jY rd) {P:Program} {w0 W:World} {ops:Array Oper} {o:Oper} {a:Act} {K:Act→World→Prop} {Q:Exit→Act→World→Prop} {E:Prop} {s x:Operand}
  {t e:TypeId} {size bytes:Nat} (T:eO P t e size bytes) {base:Nat} {v:Value} (xs:List α) (y:α) {g:Nat} {cells:Array Value} {ty:TypeId}
  (hown:aZ W base e rd size v xs) (bP:Below base w0 W) (hbase:base≤w0.heap.size) (hbound:(xs.length+1)*bytes≤140737488355328) (hg:W.heap[g]? = some (.cells cells ty))
  (ep:rd W y cells.toList) (hsz:cells.size=size) (h1:cells.all (·.oneCell')=true) (hap:kI rd e)
  (h:∀ v' w1,aZ w1 base e rd size v' (xs++[y])→Below base w0 w1→W.grownBy w1 v.ownBlock→(∀ k,v'.ownBlock=some k→v.ownBlock=some k∨W.heap.size≤k)→K (a.put o.dst v') w1)
  (hgd:o.guard=none:=by rfl) (ho:o.op=.call { callee:=.builtin .append,args:=#[s,x],argTypes:=#[t,t] }:=by rfl)
  (hs:a.eval s=v:=by rfl) (hx:a.eval x=.slice (some ⟨g,0,none⟩) 1 1:=by rfl) :
  if Region.wanted o (yielded ops a.tmps)=true then Oper.wp P o a W K Q else E:=by
 obtain⟨rows,hr1,hr2⟩:=hown;have hlen:=hr2.len;have hcl:cells.toList.length=size:=(by rw[Bu,hsz]);refine FH (en:=Row.en) T rows (⟨cells.toList,hcl⟩:Row size) hr1 bP hbase (by rw[← hlen];exact hbound) hg ?_ hgd ho hs hx rfl hcl
  (fun u hu=>(LF.1 h1) u (Array.mem_toList_iff.1 hu))
 intro v' w1 ho1 hb1 hgr jm;refine h v' w1 ⟨_,ho1,?_⟩ hb1 hgr jm;have hk:∀ z cs,rd W z cs→rd w1 z cs:=fun z cs hz=>by
  cases hv:v.ownBlock with
  | none=>exact hl _ _ _ _ hz ⟨hgr.os,hgr.tape,hgr.output,hgr.size,fun k hk=>hgr.block k hk (by rw[hv];simp)⟩
  | some k=>
   obtain⟨C,fz,ij⟩:=zF hr1 k hv;exact hap W w1 z cs k C fz hz ij hgr.size fun b hb hne=>hgr.block b hb (by rw[hv];simpa using hne)
 exact(hr2.mono fun z r hz=>hk z _ hz).snoc (hk y _ ep)
theorem aG.nH {α β:Type} {w w1:World} {base base':Nat} {e e':TypeId} {size xE:Nat} {en:α→List Value} {BL:β→List Value} {u v:Value} {xs:List α} {ys:List β} (h:aG w base e size en u xs) (h':aG w base' e' xE BL v ys) (he:e≠e') (hg:w.grownBy w1 v.ownBlock):aG w1 base e size en u xs:=
 h.other hg (h'.kind h (Ne.symm he))
theorem Qm {α β:Type} {rd:World→α→List Value→Prop} {w w1:World} {base':Nat} {e':TypeId} {xE:Nat} {BL:β→List Value} {v:Value} {ys:List β} (h':aG w base' e' xE BL v ys) (hg:w.grownBy w1 v.ownBlock) (hl:jY rd) (ha:kI rd e') {x:α} {cs:List Value} (h:rd w x cs):rd w1 x cs:=by
 cases hv:v.ownBlock with
 | none=>exact hl _ _ _ _ h ⟨hg.os,hg.tape,hg.output,hg.size,fun k hk=>hg.block k hk (by rw[hv];simp)⟩
 | some k=>
  obtain⟨C,fz,ij⟩:=zF h' k hv;exact ha w w1 x cs k C fz h ij hg.size fun b hb hne=>hg.block b hb (by rw[hv];simpa using hne)
theorem aZ.nH {α β:Type} {rd:World→α→List Value→Prop} {w w1:World} {base base':Nat} {e e':TypeId} {size xE:Nat} {BL:β→List Value} {u v:Value} {xs:List α} {ys:List β} (h:aZ w base e rd size u xs) (h':aG w base' e' xE BL v ys) (he:e≠e') (hl:jY rd) (ha:kI rd e') (hg:w.grownBy w1 v.ownBlock):aZ w1 base e rd size u xs:=by
 obtain⟨rows,h1,h2⟩:=h;exact⟨rows,h1.nH h' he hg,h2.mono fun x r hr=>Qm h' hg hl ha hr⟩
theorem jQ {β:Type} {w w1:World} {base':Nat} {e' T:TypeId} {xE:Nat} {BL:β→List Value} {v:Value} {ys:List β} {k:Nat} {C:Array Value} (h:w.heap[k]? = some (.cells C T)) (h':aG w base' e' xE BL v ys) (he:T≠e') (hg:w.grownBy w1 v.ownBlock):w1.heap[k]? = some (.cells C T):=by
 refine(hg.block k (gE h) fun hv=>?_).trans h;obtain⟨C',fz,ij⟩:=zF h' k hv.symm;rw[h]at ij;cases ij
 exact he rfl
section
variable {P:Program} {ops:Array Oper} {Q:Exit→Act→World→Prop} {md:Region.Mode} {T:World→Prop} {p:Nat}
def wpAnyL (P:Program) (md:Region.Mode) (ops:Array Oper) (Q:Exit→Act→World→Prop) (p:Nat) (T:World→Prop):Nat→Array Bool→Act→World→Prop
 | 0,listed,a,w=>Region.ready md ops listed=[]∧Q .normal a w
 | fuel+1,listed,a,w=>
  (Region.ready md ops listed=[]→Q .normal a w) ∧
  ∀ i∈Region.ready md ops listed,wpOp P ops Q i (fun a' w'=>((listed.setIfInBounds i true).getD p true=false→T w')∧wpAnyL P md ops Q p T fuel (listed.setIfInBounds i true) a' w') a w
theorem aej:∀ (fuel:Nat) (listed:Array Bool) (a:Act) (w:World),wpAnyL P md ops Q p T fuel listed a w→wpAny P md ops Q fuel listed a w
 | 0,_,_,_,h=>h
 | fuel+1,_,_,_,h=>⟨h.1,fun i hi=>wpOp_mono (fun a' w' h'=>aej fuel _ a' w' h'.2) (h.2 i hi)⟩
def zZ (md:Region.Mode) (ops:Array Oper) (p i:Nat):Bool:=match ops[p]? with
 | some o=>o.after.any fun e=>Region.binds md e && e.on == i
 | none=>false
theorem wpAnyL_first {i:Nat} {oi:Oper} {v:Value} (hi:ops[i]? = some oi) (wh:∀ (j:Nat) (o:Oper) cs b,ops[j]? = some o→o.op≠.select cs b)
  (hQ:∀ c a w,Q (.panic c) (a.put oi.dst v) w→Q (.panic c) a w) (BW:i≠p) (hwt:zZ md ops p i=true) :
  ∀ (fuel:Nat) (listed:Array Bool) (a:Act) (w:World),
   (∀ j oj,ops[j]? = some oj→j≠i→listed.getD j true=false→(∀ e∈oj.after,Region.binds md e=true→e.on≠i)→oi.apart ops oj=true) →
   i∈Region.ready md ops listed→YieldsIf P ops T oi v a→T w→listed.getD p true=false →
   wpAnyL P md ops Q p T fuel (listed.setIfInBounds i true) (a.put oi.dst v) w→wpAnyL P md ops Q p T (fuel+1) listed a w:=by
 have hpj:∀ (listed:Array Bool) (j:Nat),i∈Region.ready md ops listed→j∈Region.ready md ops listed→j≠p:=by
  rintro listed j hr hj rfl;obtain⟨_,oj,sq,hall⟩:=mem_ready.1 hj;unfold zZ at hwt;rw[sq]at hwt;simp only[Array.any_eq_true]at hwt;obtain⟨q,hq,hb⟩:=hwt;simp only[uF,dZ]at hb;have h1:=hall _ (Array.getElem_mem hq) hb.1;have h0:=(mem_ready.1 hr).1;rw[hb.2]at h1;rcases lI i listed.size with h' | h'
  ·simp[h']at h0 h1;rw[h0]at h1;cases h1
  ·exact Pk
 intro fuel
 induction fuel with
 | zero=>
  intro listed a w _ hr hy hT _ H;refine⟨fun h=>(by rw[h]at hr;cases hr),fun j hj=>?_⟩;by_cases lY:j=i
  ·exact Pb
  ·have:=ready_mono hj lY;rw[H.1]at this;cases this
 | succ fuel ih=>
  intro listed a w DG hr hy hT hp H;refine⟨fun h=>(by rw[h]at hr;cases hr),fun j hj=>?_⟩;by_cases lY:j=i
  ·exact Pb
  ·have MB:=hpj listed j hr hj;have h1:=H.2 j (ready_mono hj lY);obtain⟨DI,oj,sq,hall⟩:=mem_ready.1 hj;have DJ:∀ e∈oj.after,Region.binds md e=true→e.on≠i:=fun e he hb heq=>by
    have h1:=hall e he hb;have h0:=(mem_ready.1 hr).1;rw[heq]at h1;rcases lI i listed.size with h' | h'
    ·simp[h']at h0 h1;rw[h0]at h1;cases h1
    ·exact Pk
   have h2:=wpOp_putIf sq (DG j oj sq lY DI DJ) (fun cs b=>wh i oi cs b hi) (fun cs b=>wh j oj cs b sq) hQ hy h1;have V9:∀ k ok,ops[k]? = some ok→k≠i→(listed.setIfInBounds j true).getD k true=false →
     (∀ e∈ok.after,Region.binds md e=true→e.on≠i)→oi.apart ops ok=true:=fun k ok hk FQ xN hno=>by
    refine DG k ok hk FQ ?_ hno;by_cases hjk:j=k
    ·subst hjk;exact DI
    ·rw[zJ true hjk]at xN;exact xN
   have fL:(listed.setIfInBounds j true).getD p true=false:=(by rw[zJ true MB];exact hp);have o9:((listed.setIfInBounds i true).setIfInBounds j true).getD p true=false:=(by rw[zJ true MB,zJ true BW];exact hp);refine wpOp_mono (fun a' w' h3=>⟨fun _=>h3.2.1 o9,ih (listed.setIfInBounds j true) a' w' V9 (ready_mono hr (Ne.symm lY)) h3.1 (h3.2.1 o9) fL ?_⟩) h2;rw[Array.setIfInBounds_comm _ _ lY];exact h3.2.2
theorem al6 (i:Nat) {oi:Oper} {v:Value} {fuel:Nat} {listed:Array Bool} {a:Act} {w:World} (hi:ops.toList[i]? = some oi)
  (hs:Region.noSelect ops=true) (hf:Region.free md ops listed i=true) (hr:(Region.ready md ops listed).contains i=true) (BW:(i == p)=false) (hwt:zZ md ops p i=true) (MC:listed.getD p true=false)
  (hQ:∀ c a w,Q (.panic c) (a.put oi.dst v) w→Q (.panic c) a w) (hT:T w) (hy:YieldsIf P ops T oi v a)
  (h:wpAnyL P md ops Q p T fuel (listed.setIfInBounds i true) (a.put oi.dst v) w):wpAnyL P md ops Q p T (fuel+1) listed a w:=by
 have hi':ops[i]? = some oi:=Ve;exact wpAnyL_first hi' (Region.noSelect_spec hs) hQ (by simpa using BW) hwt fuel listed a w (Region.free_spec hi' hf) (by simpa using hr) hy hT MC h
theorem hL (i:Nat) {oi:Oper} {v:Value} {fuel:Nat} {listed:Array Bool} {a:Act} {w:World} (h:wpAnyL P md ops Q p T fuel (listed.setIfInBounds i true) (a.put oi.dst v) w) (hi:ops.toList[i]? = some oi:=by rfl)
  (hs:Region.noSelect ops=true:=by kernel_rfl) (hf:Region.free md ops listed i=true:=by kernel_rfl) (hr:(Region.ready md ops listed).contains i=true:=by kernel_rfl) (BW:(i == p)=false:=by kernel_rfl) (hwt:zZ md ops p i=true:=by kernel_rfl) (MC:listed.getD p true=false:=by kernel_rfl)
  (hQ:∀ c a w,Q (.panic c) (a.put oi.dst v) w→Q (.panic c) a w:=by exact fun _ _ _ h=>h) (hT:T w:=by assumption)
  (hy:YieldsIf P ops T oi v a:=by first|(refine Or.inr ⟨?_,?_⟩<;>rfl)|(refine Or.inl ⟨by rfl,?_⟩;intro w hSw;(try dsimp only at hSw);first|(go_simp;done)|(go_simp;with_reducible rfl))):wpAnyL P md ops Q p T (fuel+1) listed a w:=
 al6 i hi hs hf hr BW hwt MC hQ hT hy h
theorem CT (i:Nat) {o:Oper} {fuel:Nat} {listed:Array Bool} {a:Act} {w:World} (ho:ops.toList[i]? = some o) (hr:Region.ready md ops listed=[i])
  (h:∀ K':Act→World→Prop,Shut (∀ a w,T w→(T w→wpAnyL P md ops Q p T fuel (listed.setIfInBounds i true) a w)→K' a w)→if Region.wanted o (yielded ops a.tmps)=true then Oper.wp P o a w K' Q else K' (a.put o.dst undef) w) :
  wpAnyL P md ops Q p T (fuel+1) listed a w:=by
 have Jd:ops[i]? = some o:=PS;refine⟨(fun h0=>by rw[hr]at h0;cases h0),fun j hj=>?_⟩;rw[hr]at hj;obtain rfl:j=i:=by simpa using hj
 exact wpOp_step Jd (fun K' hK=>h K' (fun a w hT hW=>hK a w ⟨fun _=>hT,hW hT⟩))
theorem Ui (i:Nat) {o:Oper} {fuel:Nat} {listed:Array Bool} {a:Act} {w:World} (ho:ops.toList[i]? = some o) (hr:Region.ready md ops listed=[i]) (hp:(listed.setIfInBounds i true).getD p true=true)
  (h:∀ K':Act→World→Prop,Shut (∀ a w,wpAnyL P md ops Q p T fuel (listed.setIfInBounds i true) a w→K' a w)→if Region.wanted o (yielded ops a.tmps)=true then Oper.wp P o a w K' Q else K' (a.put o.dst undef) w) :
  wpAnyL P md ops Q p T (fuel+1) listed a w:=by
 have Jd:ops[i]? = some o:=PS;refine⟨(fun h0=>by rw[hr]at h0;cases h0),fun j hj=>?_⟩;rw[hr]at hj;obtain rfl:j=i:=by simpa using hj
 exact wpOp_step Jd (fun K' hK=>h K' (fun a w hW=>hK a w ⟨fun h0=>(by rw[hp]at h0;cases h0),hW⟩))
theorem aa0 {listed:Array Bool} {a:Act} {w:World} (hr:Region.ready md ops listed=[]) (h:Q .normal a w):∀ fuel,wpAnyL P md ops Q p T fuel listed a w
 | 0=>⟨hr,h⟩
 | _+1=>⟨fun _=>h,by rw[hr];simp⟩
theorem wX {id:Nat} {a:Act} {w:World} (p:Nat) (T:World→Prop) (hm:P.follows .mixedOrders=true) (hT:T w.drew)
  (h:T w.drew→wpAnyL P .any ops Q p T ops.size (Array.replicate ops.size false) a w.drew):(Code.region id ops true).wp P Q a w:=
 wp_region_any hm (aej _ _ _ _ (h hT))
end
section
variable {P:Program} {ops:Array Oper} {Q:Exit→Act→World→Prop} {md:Region.Mode} {T:World→Prop} {p:Nat}
theorem aek {m i:Nat} {listed:Array Bool} (hwt:zZ md ops m i=true) (hi:listed.getD i true=false):m ∉ Region.ready md ops listed:=by
 intro hj;obtain⟨_,oj,sq,hall⟩:=mem_ready.1 hj;unfold zZ at hwt;rw[sq]at hwt;simp only[Array.any_eq_true]at hwt;obtain⟨q,hq,hb⟩:=hwt;simp only[uF,dZ]at hb;have h1:=hall _ (Array.getElem_mem hq) hb.1;rw[hb.2]at h1;rcases lI i listed.size with h' | h'
 ·simp[h']at hi h1;rw[hi]at h1;cases h1
 ·exact Pk
theorem al7 {i m:Nat} {oi:Oper} {v:Value} (hi:ops[i]? = some oi) (wh:∀ (j:Nat) (o:Oper) cs b,ops[j]? = some o→o.op≠.select cs b)
  (hQ:∀ c a w,Q (.panic c) (a.put oi.dst v) w→Q (.panic c) a w) (BW:i≠p) (Wc:zZ md ops p m=true) (Wd:zZ md ops m i=true) :
  ∀ (fuel:Nat) (listed:Array Bool) (a:Act) (w:World),
   (∀ j oj,ops[j]? = some oj→j≠i→listed.getD j true=false→(∀ e∈oj.after,Region.binds md e=true→e.on≠i)→oi.apart ops oj=true) →
   i∈Region.ready md ops listed→YieldsIf P ops T oi v a→T w→listed.getD p true=false→listed.getD m true=false →
   wpAnyL P md ops Q p T fuel (listed.setIfInBounds i true) (a.put oi.dst v) w→wpAnyL P md ops Q p T (fuel+1) listed a w:=by
 intro fuel
 induction fuel with
 | zero=>
  intro listed a w _ hr hy hT _ _ H;refine⟨fun h=>(by rw[h]at hr;cases hr),fun j hj=>?_⟩;by_cases lY:j=i
  ·exact Pb
  ·have:=ready_mono hj lY;rw[H.1]at this;cases this
 | succ fuel ih=>
  intro listed a w DG hr hy hT hp hm H;refine⟨fun h=>(by rw[h]at hr;cases hr),fun j hj=>?_⟩;by_cases lY:j=i
  ·exact Pb
  ·have hjm:j≠m:=by
    rintro rfl;exact aek Wd (mem_ready.1 hr).1 hj
   have MB:j≠p:=by
    rintro rfl;exact aek Wc hm hj
   have h1:=H.2 j (ready_mono hj lY);obtain⟨DI,oj,sq,hall⟩:=mem_ready.1 hj;have DJ:∀ e∈oj.after,Region.binds md e=true→e.on≠i:=fun e he hb heq=>by
    have h1:=hall e he hb;have h0:=(mem_ready.1 hr).1;rw[heq]at h1;rcases lI i listed.size with h' | h'
    ·simp[h']at h0 h1;rw[h0]at h1;cases h1
    ·exact Pk
   have h2:=wpOp_putIf sq (DG j oj sq lY DI DJ) (fun cs b=>wh i oi cs b hi) (fun cs b=>wh j oj cs b sq) hQ hy h1;have V9:∀ k ok,ops[k]? = some ok→k≠i→(listed.setIfInBounds j true).getD k true=false →
     (∀ e∈ok.after,Region.binds md e=true→e.on≠i)→oi.apart ops ok=true:=fun k ok hk FQ xN hno=>by
    refine DG k ok hk FQ ?_ hno;by_cases hjk:j=k
    ·subst hjk;exact DI
    ·rw[zJ true hjk]at xN;exact xN
   have fL:(listed.setIfInBounds j true).getD p true=false:=(by rw[zJ true MB];exact hp);have hm1:(listed.setIfInBounds j true).getD m true=false:=(by rw[zJ true hjm];exact hm);have o9:((listed.setIfInBounds i true).setIfInBounds j true).getD p true=false:=(by rw[zJ true MB,zJ true BW];exact hp);refine wpOp_mono (fun a' w' h3=>⟨fun _=>h3.2.1 o9,ih (listed.setIfInBounds j true) a' w' V9 (ready_mono hr (Ne.symm lY)) h3.1 (h3.2.1 o9) fL hm1 ?_⟩) h2;rw[Array.setIfInBounds_comm _ _ lY];exact h3.2.2
theorem al8 (i m:Nat) {oi:Oper} {v:Value} {fuel:Nat} {listed:Array Bool} {a:Act} {w:World} (hi:ops.toList[i]? = some oi)
  (hs:Region.noSelect ops=true) (hf:Region.free md ops listed i=true) (hr:(Region.ready md ops listed).contains i=true) (BW:(i == p)=false) (Wc:zZ md ops p m=true) (Wd:zZ md ops m i=true) (MC:listed.getD p true=false) (hmu:listed.getD m true=false)
  (hQ:∀ c a w,Q (.panic c) (a.put oi.dst v) w→Q (.panic c) a w) (hT:T w) (hy:YieldsIf P ops T oi v a)
  (h:wpAnyL P md ops Q p T fuel (listed.setIfInBounds i true) (a.put oi.dst v) w):wpAnyL P md ops Q p T (fuel+1) listed a w:=by
 have hi':ops[i]? = some oi:=Ve;exact al7 hi' (Region.noSelect_spec hs) hQ (by simpa using BW) Wc Wd fuel listed a w (Region.free_spec hi' hf) (by simpa using hr) hy hT MC hmu h
end
end Go.Proofs.YtfflljgnpfldfaaGreatDoor
