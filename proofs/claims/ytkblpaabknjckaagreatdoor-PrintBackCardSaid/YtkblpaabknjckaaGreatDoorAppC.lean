/-
  A list, perhaps an empty one, put behind a list of the call's own.
-/
import Derived.Test.YtkblpaabknjckaaGreatDoorBaseD
import Derived.Deep.MidRow
import Derived.Deep.WholeRow
import Derived.Test.YtkblpaabknjckaaGreatDoorBaseC
import Derived.Test.YtkblpaabknjckaaGreatDoorTxtP
import Derived.Deep.Upon
set_option maxHeartbeats 128000000
set_option linter.unusedVariables false
namespace Go.Proofs.YtkblpaabknjckaaGreatDoor
open Go.RowKit
theorem Blk.range {w:World} {k:Nat} {cs:Array Value} (h:Blk w k cs):w.rangeAt k 0 cs.toList:=fun j v hv=>by
 rw[Nat.zero_add];exact h.cell j v (by simpa using hv)
theorem Blk.row {w:World} {k:Nat} {cs:Array Value} (h:Blk w k cs) (C:Array Value):Blk (w.setRow k C) k C:=by
 obtain⟨T,h⟩:=h;exact⟨T,setRow_heap w k cs C T (0,0) h⟩
theorem heap_setRow_other (w:World) (g k:Nat) (C:Array Value) (h:k≠g):(w.setRow g C).heap[k]? = w.heap[k]?:=by
 simp only[World.setRow,Array.getElem?_modify];rw[if_neg (by omega)]
theorem below_row {B:Nat} {a w:World} (h:Below B a w) {g:Nat} (hg:B≤g) (C:Array Value):Below B a (w.setRow g C):=
 h.trans ⟨rfl,rfl,rfl,by simp[World.setRow],fun k hk=>heap_setRow_other _ _ _ _ (by omega)⟩
theorem Blk.put {w:World} {k:Nat} {cs:Array Value} (h:Blk w k cs) (j:Nat) (v:Value):Blk (w.setCell ⟨k,j,none⟩ v) k (cs.setIfInBounds j v):=by
 obtain⟨T,h⟩:=h;refine⟨T,?_⟩;simp[World.setCell,Array.getElem?_modify,h]
theorem run_loadS {P:Program} {w:World} {k:Nat} {cs:Array Value} (h:Blk w k cs) (ty:TypeId) (d:TypeDesc) (hu:P.underlying ty=some d) (hd:d.isRow=true) (hi:(P.info? ty).map (·.size)=some cs.size) :
  (loadVar ty ⟨k,0,none⟩).run P w=.ok (.agg cs) w:=by
 have:=run_loadVar_mid (P:=P) w k 0 ty cs.toList d h.range hu hd (by simpa using hi)
 simpa using this
theorem wpList_loadS {P:Program} {ops:Array Oper} {rest:List Oper} {o:Oper} {a:Act} {w:World} {Q:Exit→Act→World→Prop} {k:Nat} {cs:Array Value} (hb:Blk w k cs) (ty:TypeId) (x:Operand) {d:TypeDesc}
  (hu:P.underlying ty=some d) (hi:(P.info? ty).map (·.size)=some cs.size)
  (h:wpList P ops Q rest (a.put o.dst (.agg cs)) w)
  (hgd:o.guard=none:=by rfl) (ho:o.op=.load ty x:=by rfl) (hx:a.eval x=.pointer (some ⟨k,0,none⟩):=by rfl) (hd:d.isRow=true:=by rfl):wpList P ops Q (o::rest) a w:=by
 refine wpList_load_mid hgd ty x ho k 0 hx cs.toList d hb.range hu hd (by simpa using hi) ?_
 simpa using h
theorem wpList_storeS {P:Program} {ops:Array Oper} {rest:List Oper} {o:Oper} {a:Act} {w:World} {Q:Exit→Act→World→Prop} {k:Nat} {old cs:Array Value} (hb:Blk w k old) (ty:TypeId) (x y:Operand)
  (hi:(P.info? ty).map (·.size)=some cs.size) (hs:old.size=cs.size) (h1:cs.all (·.oneCell')=true)
  (h:wpList P ops Q rest (a.put o.dst undef) (w.setRow k cs))
  (hgd:o.guard=none:=by rfl) (ho:o.op=.store ty x y:=by rfl) (hx:a.eval x=.pointer (some ⟨k,0,none⟩):=by rfl) (hy:a.eval y=.agg cs:=by rfl):wpList P ops Q (o::rest) a w:=by
 obtain⟨T,hb⟩:=hb;refine wpList_plain hgd fun _ hK=>?_
 unfold Oper.wp execOp;simp only[ho,hx,hy,Instr.storeAt,Instr.sureAddr,Sem.run_bind,Sem.run_pure,Result.andThen_ok,run_storeVar_row w k T ty old cs hb hi hs h1];exact hK _ _ h
theorem wpList_newS {P:Program} {ops:Array Oper} {rest:List Oper} {o o2:Oper} {a:Act} {w:World} {Q:Exit→Act→World→Prop} {Z cs:Array Value} (ty:TypeId) (x y:Operand)
  (hz:(P.info? ty).map (fun i=>(i.zero,i.size))=some (some (.agg Z),cs.size)) (hs:Z.size=cs.size) (h1:cs.all (·.oneCell')=true)
  (h:wpList P ops Q rest ((a.put o.dst (.pointer (some ⟨w.heap.size,0,none⟩))).put o2.dst undef) (w.alloc (.cells cs ty)))
  (hgd:o.guard=none:=by rfl) (ho:o.op=.alloc ty:=by rfl) (hgd2:o2.guard=none:=by rfl) (ho2:o2.op=.store ty x y:=by rfl)
  (hx:(a.put o.dst (.pointer (some ⟨w.heap.size,0,none⟩))).eval x=.pointer (some ⟨w.heap.size,0,none⟩):=by rfl) (hy:(a.put o.dst (.pointer (some ⟨w.heap.size,0,none⟩))).eval y=.agg cs:=by rfl):wpList P ops Q (o::o2::rest) a w:=by
 obtain⟨z1,z2⟩:=zero_of_info hz;refine wpList_plain hgd fun _ hK=>?_
 unfold Oper.wp execOp;simp only[ho,Instr.alloc,Sem.run_bind,z1,Result.andThen_ok,newVar,newRow,Value.cells,Sem.run_pure];refine hK _ _ ?_;refine wpList_storeS (k:=w.heap.size) (old:=Z) (cs:=cs) ?_ ty x y z2 hs h1 ?_ hgd2 ho2 hx hy
 ·exact Blk.new w Z ty
 ·have e:(w.alloc (.cells Z ty)).setRow w.heap.size cs=w.alloc (.cells cs ty):=World.setRow_alloc_new w Z cs ty;rw[← e]at h;exact h
theorem Owns.ofBlock {α:Type} {w w':World} {base:Nat} {e:TypeId} {size:Nat} {en:α→List Value} {v:Value} {xs:List α} (h:Owns w base e size en v xs) (hb:∀ k,v.ownBlock=some k→w'.heap[k]? = w.heap[k]?):Owns w' base e size en v xs:=by
 refine⟨h.1,?_⟩;rcases h.2 with h0|⟨g,cap,cur,rfl,h1,h2,h3⟩
 ·exact .inl h0
 ·exact .inr ⟨g,cap,cur,rfl,h1,by rw[hb g rfl];exact h2,h3⟩
def Row (n:Nat):Type:={ l:List Value // l.length=n }
def Row.en {n:Nat} (r:Row n):List Value:=r.1
theorem Row.en_len {n:Nat} (r:Row n):r.en.length=n:=r.2
instance Row.inh (n:Nat):Inhabited (Row n):=⟨⟨List.replicate n undef,List.length_replicate⟩⟩
inductive All2 {α β:Type} (R:α→β→Prop):List α→List β→Prop
 | nil:All2 R [] []
 | cons {x:α} {y:β} {xs:List α} {ys:List β}:R x y→All2 R xs ys→All2 R (x::xs) (y::ys)
theorem All2.len {α β:Type} {R:α→β→Prop} {xs:List α} {ys:List β} (h:All2 R xs ys):xs.length=ys.length:=by
 induction h with
 | nil=>rfl
 | cons _ _ ih=>simp[ih]
theorem All2.mono {α β:Type} {R S:α→β→Prop} {xs:List α} {ys:List β} (h:All2 R xs ys) (hm:∀ x y,R x y→S x y):All2 S xs ys:=by
 induction h with
 | nil=>exact .nil
 | cons a _ ih=>exact .cons (hm _ _ a) ih
theorem All2.get {α β:Type} {R:α→β→Prop} {xs:List α} {ys:List β} (h:All2 R xs ys) {k:Nat} (hk:k < xs.length) (hk':k < ys.length):R xs[k] ys[k]:=by
 induction h generalizing k with
 | nil=>simp at hk
 | cons a _ ih=>
  cases k with
  | zero=>exact a
  | succ k=>exact ih (by simpa using hk) (by simpa using hk')
theorem All2.app {α β:Type} {R:α→β→Prop} {xs us:List α} {ys vs:List β} (h:All2 R xs ys) (h':All2 R us vs):All2 R (xs++us) (ys++vs):=by
 induction h with
 | nil=>exact h'
 | cons a _ ih=>exact .cons a ih
theorem All2.snoc {α β:Type} {R:α→β→Prop} {xs:List α} {ys:List β} (h:All2 R xs ys) {x:α} {y:β} (a:R x y):All2 R (xs++[x]) (ys++[y]):=h.app (.cons a .nil)
theorem All2.set {α β:Type} {R:α→β→Prop} {xs:List α} {ys:List β} (h:All2 R xs ys) {k:Nat} {x:α} {y:β} (a:R x y):All2 R (xs.set k x) (ys.set k y):=by
 induction h generalizing k with
 | nil=>exact .nil
 | cons b c ih=>
  cases k with
  | zero=>exact .cons a c
  | succ k=>exact .cons b ih
def Lasts {α:Type} (rd:World→α→List Value→Prop):Prop:=∀ (w w':World) (x:α) (cs:List Value),rd w x cs→Below w.heap.size w w'→rd w' x cs
def Apt {α:Type} (rd:World→α→List Value→Prop) (e:TypeId):Prop:=∀ (w w':World) (x:α) (cs:List Value) (k:Nat) (C:Array Value) (fz:Nat×Nat),rd w x cs→w.heap[k]? = some (.cells C e fz)→w.heap.size≤w'.heap.size →
 (∀ b,b < w.heap.size→b≠k→w'.heap[b]? = w.heap[b]?)→rd w' x cs
def SlRd {α:Type} (w:World) (rd:World→α→List Value→Prop) (size:Nat) (a:Option Addr) (cap:Nat) (xs:List α):Prop:=
 ∃ rows:List (Row size),SlOf w Row.en size a cap rows∧All2 (fun x (r:Row size)=>rd w x r.1) xs rows
section
variable {α:Type} {rd:World→α→List Value→Prop} {size:Nat} {a:Option Addr} {cap:Nat} {xs:List α} {w w':World}
theorem SlRd.keep (h:SlRd w rd size a cap xs) (hl:Lasts rd) (hb:Below w.heap.size w w'):SlRd w' rd size a cap xs:=by
 obtain⟨rows,h1,h2⟩:=h;exact⟨rows,h1.keep hb lrf,h2.mono fun x r hr=>hl _ _ _ _ hr hb⟩
theorem SlRd.at (h:SlRd w rd size a cap xs) (hs:0 < size) {k:Nat} (hk:k < xs.length) :
  ∃ b o,a=some ⟨b,o,none⟩∧b < w.heap.size∧∃ cs:List Value,cs.length=size∧rd w xs[k] cs∧w.rangeAt b (o+k*size) cs:=by
 obtain⟨rows,h1,h2⟩:=h;have hk':k < rows.length:=(by rw[← h2.len];exact hk);obtain⟨b,o,rfl,hb,hc⟩:=SlOf.cells h1 Row.en_len hs hk';refine⟨b,o,rfl,hb,rows[k].1,rows[k].2,h2.get hk hk',fun j v hv=>?_⟩;have hj:j < size:=by
  have:=(List.getElem?_eq_some_iff.1 hv).1;rw[rows[k].2]at this;exact this
 rw[Nat.add_assoc,hc j hj];exact hv
def OwnRd (w:World) (base:Nat) (e:TypeId) (rd:World→α→List Value→Prop) (size:Nat) (v:Value) (xs:List α):Prop:=
 ∃ rows:List (Row size),Owns w base e size Row.en v rows∧All2 (fun x (r:Row size)=>rd w x r.1) xs rows
variable {base:Nat} {e:TypeId} {v:Value}
theorem OwnRd.keep (h:OwnRd w base e rd size v xs) (hl:Lasts rd) (hb:Below w.heap.size w w'):OwnRd w' base e rd size v xs:=by
 obtain⟨rows,h1,h2⟩:=h;exact⟨rows,h1.keep hb lrf,h2.mono fun x r hr=>hl _ _ _ _ hr hb⟩
theorem OwnRd.nil (w:World) (base:Nat) (e:TypeId) (rd:World→α→List Value→Prop) (size:Nat):OwnRd w base e rd size (.slice none 0 0) ([]:List α):=⟨[],Owns.nil _ _ _ _ _,.nil⟩
theorem OwnRd.shape (h:OwnRd w base e rd size v xs):∃ a cap,v=.slice a xs.length cap∧SlRd w rd size a cap xs:=by
 obtain⟨rows,h1,h2⟩:=h;obtain⟨a,cap,rfl,hs⟩:=h1.shape;exact⟨a,cap,by rw[h2.len],rows,hs,h2⟩
theorem OwnRd.fromBase {base':Nat} (h:OwnRd w base e rd size v xs) (hb:base'≤base):OwnRd w base' e rd size v xs:=by
 obtain⟨rows,h1,h2⟩:=h;exact⟨rows,h1.fromBase hb,h2⟩
end
theorem wpList_append_rd {α:Type} {rd:World→α→List Value→Prop} (hl:Lasts rd) {P:Program} {w0 wr:World} {ops:Array Oper} {rest:List Oper} {o:Oper} {a:Act} {Q:Exit→Act→World→Prop} {s x:Operand}
  {t e:TypeId} {size bytes:Nat} (T:SlTy P t e size bytes) {base:Nat} {v:Value} (xs:List α) (y:α) {cells:Array Value} {ty:TypeId}
  (hown:OwnRd wr base e rd size v xs) (hbel:Below base w0 wr) (hbase:base≤w0.heap.size) (hbound:(xs.length+1)*bytes≤140737488355328)
  (hrd:rd wr y cells.toList) (hsz:cells.size=size) (h1:cells.all (·.oneCell')=true)
  (hap:Apt rd e)
  (h:∀ v' w1,OwnRd w1 base e rd size v' (xs++[y])→Below base w0 w1→wr.grownBy w1 v.ownBlock→wpList P ops Q rest (a.put o.dst v') w1)
  (hgd:o.guard=none:=by rfl) (ho:o.op=.call { callee:=.builtin .append,args:=#[s,x],argTypes:=#[t,t] }:=by rfl)
  (hs:a.eval s=v:=by rfl) (hx:a.eval x=.slice (some ⟨wr.heap.size,0,none⟩) 1 1:=by rfl) :
  wpList P ops Q (o::rest) a (wr.alloc (.cells cells ty)):=by
 obtain⟨rows,hr1,hr2⟩:=hown;have hlen:=hr2.len;have hcl:cells.toList.length=size:=(by rw[Array.length_toList,hsz]);refine wpList_append_elem3 (en:=Row.en) T rows (⟨cells.toList,hcl⟩:Row size) hr1 hbel hbase (by rw[← hlen];exact hbound) ?_ hgd ho hs hx rfl hcl
  (fun u hu=>(Array.all_eq_true_iff_forall_mem.1 h1) u (Array.mem_toList_iff.1 hu))
 intro v' w1 ho1 hb1 hg _;refine h v' w1 ⟨_,ho1,?_⟩ hb1 hg;have hk:∀ z cs,rd wr z cs→rd w1 z cs:=fun z cs hz=>by
  cases hv:v.ownBlock with
  | none=>exact hl _ _ _ _ hz ⟨hg.os,hg.tape,hg.output,hg.size,fun k hk=>hg.block k hk (by rw[hv];simp)⟩
  | some k=>
   obtain⟨C,fz,hkk⟩:=Lib.ownsRow_kind hr1 k hv;exact hap wr w1 z cs k C fz hz hkk hg.size fun b hb hne=>hg.block b hb (by rw[hv];simpa using hne)
 exact(hr2.mono fun z r hz=>hk z _ hz).snoc (hk y _ hrd)
theorem wpList_append_sl {α:Type} {en:α→List Value} {P:Program} {w0 wr:World} {ops:Array Oper} {rest:List Oper} {o:Oper} {a:Act} {Q:Exit→Act→World→Prop} {s x:Operand} {t e:TypeId} {size bytes:Nat} (T:SlTy P t e size bytes)
  {base:Nat} {v:Value} (xs ys:List α) (hen:∀ y,(en y).length=size) (hone:∀ y∈ys,∀ u∈en y,u.oneCell' = true) {p:Addr} {cap:Nat} (hys:SlOf wr en size (some p) cap ys)
  (hown:Owns wr base e size en v xs) (hbel:Below base w0 wr) (hbase:base≤w0.heap.size) (hbound:(xs.length+ys.length)*bytes≤140737488355328)
  (h:∀ v' w1,Owns w1 base e size en v' (xs++ys)→Below base w0 w1→wpList P ops Q rest (a.put o.dst v') w1)
  (hgd:o.guard=none:=by rfl) (ho:o.op=.call { callee:=.builtin .append,args:=#[s,x],argTypes:=#[t,t] }:=by rfl)
  (hs0:a.eval s=v:=by rfl) (hx:a.eval x=.slice (some p) ys.length cap:=by rfl):wpList P ops Q (o::rest) a wr:=by
 obtain⟨hu,⟨i,z,hi,hz,h1,h2,h3⟩,hp,hbp⟩:=T;have hsz:=hbel.size;have hn:xs.length+ys.length≤maxLen:=by
  have:(xs.length+ys.length)*1≤(xs.length+ys.length)*bytes:=Nat.mul_le_mul_left _ hbp;unfold maxLen;omega
 have hnews:∀ j u,(ys.flatMap en)[j]? = some u→wr.cell? (p.add j)=some u:=by
  intro j u hu;have hj:j < (ys.flatMap en).length:=(List.getElem?_eq_some_iff.1 hu).1;obtain⟨b,off,e1,e2⟩:=Sl.at' hys j hj;cases e1
  rw[Addr.add_lit,e2];exact hu
 have hone':∀ u∈ys.flatMap en,u.oneCell' = true:=fun u hu=>by
  obtain⟨y,hm,hy⟩:=List.mem_flatMap.1 hu;exact hone y hm u hy
 refine wpList_append_own _ hgd s x t ho base e i z size bytes hu hi hz h1 h2 h3 hp v xs.length (xs.flatMap en) hs0 hown p ys.length cap (ys.flatMap en) hx (by rw[flatMap_length hen]) hnews hone' hn hbound (by omega) ?_;intro v' w' hown' hg _;refine h v' w' ?_ (hbel.grown hg (by omega) (fun k hk=>(World.ownsRow.lt hown k hk).1));unfold Owns;rw[List.length_append,List.flatMap_append];exact hown'
theorem step_loadS {P:Program} {ops:Array Oper} {o:Oper} {a:Act} {w:World} {K:Act→World→Prop} {Q:Exit→Act→World→Prop} {E:Prop} {k:Nat} {cs:Array Value} (hb:Blk w k cs) (ty:TypeId) (x:Operand) {d:TypeDesc}
  (hu:P.underlying ty=some d) (hi:(P.info? ty).map (·.size)=some cs.size)
  (h:K (a.put o.dst (.agg cs)) w)
  (hgd:o.guard=none:=by rfl) (ho:o.op=.load ty x:=by rfl) (hx:a.eval x=.pointer (some ⟨k,0,none⟩):=by rfl) (hd:d.isRow=true:=by rfl) :
  if Region.wanted o (yielded ops a.tmps)=true then Oper.wp P o a w K Q else E:=by
 rw[if_pos (by simp[Region.wanted,hgd])];unfold Oper.wp execOp;simp only[ho,hx,Instr.loadAt,Instr.sureAddr,Sem.run_bind,Sem.run_pure,Result.andThen_ok,run_loadS hb ty d hu hd hi];exact h
theorem step_append_rd {α:Type} {rd:World→α→List Value→Prop} (hl:Lasts rd) {P:Program} {w0 W:World} {ops:Array Oper} {o:Oper} {a:Act} {K:Act→World→Prop} {Q:Exit→Act→World→Prop} {E:Prop} {s x:Operand}
  {t e:TypeId} {size bytes:Nat} (T:SlTy P t e size bytes) {base:Nat} {v:Value} (xs:List α) (y:α) {g:Nat} {cells:Array Value} {ty:TypeId}
  (hown:OwnRd W base e rd size v xs) (hbel:Below base w0 W) (hbase:base≤w0.heap.size) (hbound:(xs.length+1)*bytes≤140737488355328) (hg:W.heap[g]? = some (.cells cells ty))
  (hrd:rd W y cells.toList) (hsz:cells.size=size) (h1:cells.all (·.oneCell')=true) (hap:Apt rd e)
  (h:∀ v' w1,OwnRd w1 base e rd size v' (xs++[y])→Below base w0 w1→W.grownBy w1 v.ownBlock→(∀ k,v'.ownBlock=some k→v.ownBlock=some k∨W.heap.size≤k)→K (a.put o.dst v') w1)
  (hgd:o.guard=none:=by rfl) (ho:o.op=.call { callee:=.builtin .append,args:=#[s,x],argTypes:=#[t,t] }:=by rfl)
  (hs:a.eval s=v:=by rfl) (hx:a.eval x=.slice (some ⟨g,0,none⟩) 1 1:=by rfl) :
  if Region.wanted o (yielded ops a.tmps)=true then Oper.wp P o a W K Q else E:=by
 obtain⟨rows,hr1,hr2⟩:=hown;have hlen:=hr2.len;have hcl:cells.toList.length=size:=(by rw[Array.length_toList,hsz]);refine step_append_elem (en:=Row.en) T rows (⟨cells.toList,hcl⟩:Row size) hr1 hbel hbase (by rw[← hlen];exact hbound) hg ?_ hgd ho hs hx rfl hcl
  (fun u hu=>(Array.all_eq_true_iff_forall_mem.1 h1) u (Array.mem_toList_iff.1 hu))
 intro v' w1 ho1 hb1 hgr hnb;refine h v' w1 ⟨_,ho1,?_⟩ hb1 hgr hnb;have hk:∀ z cs,rd W z cs→rd w1 z cs:=fun z cs hz=>by
  cases hv:v.ownBlock with
  | none=>exact hl _ _ _ _ hz ⟨hgr.os,hgr.tape,hgr.output,hgr.size,fun k hk=>hgr.block k hk (by rw[hv];simp)⟩
  | some k=>
   obtain⟨C,fz,hkk⟩:=Lib.ownsRow_kind hr1 k hv;exact hap W w1 z cs k C fz hz hkk hgr.size fun b hb hne=>hgr.block b hb (by rw[hv];simpa using hne)
 exact(hr2.mono fun z r hz=>hk z _ hz).snoc (hk y _ hrd)
theorem Owns.grown2 {α β:Type} {w w1:World} {base base':Nat} {e e':TypeId} {size size':Nat} {en:α→List Value} {en':β→List Value} {u v:Value} {xs:List α} {ys:List β} (h:Owns w base e size en u xs) (h':Owns w base' e' size' en' v ys) (he:e≠e') (hg:w.grownBy w1 v.ownBlock):Owns w1 base e size en u xs:=
 h.other hg (h'.kind h (Ne.symm he))
theorem rd_grown {α β:Type} {rd:World→α→List Value→Prop} {w w1:World} {base':Nat} {e':TypeId} {size':Nat} {en':β→List Value} {v:Value} {ys:List β} (h':Owns w base' e' size' en' v ys) (hg:w.grownBy w1 v.ownBlock) (hl:Lasts rd) (ha:Apt rd e') {x:α} {cs:List Value} (h:rd w x cs):rd w1 x cs:=by
 cases hv:v.ownBlock with
 | none=>exact hl _ _ _ _ h ⟨hg.os,hg.tape,hg.output,hg.size,fun k hk=>hg.block k hk (by rw[hv];simp)⟩
 | some k=>
  obtain⟨C,fz,hkk⟩:=Lib.ownsRow_kind h' k hv;exact ha w w1 x cs k C fz h hkk hg.size fun b hb hne=>hg.block b hb (by rw[hv];simpa using hne)
theorem OwnRd.grown2 {α β:Type} {rd:World→α→List Value→Prop} {w w1:World} {base base':Nat} {e e':TypeId} {size size':Nat} {en':β→List Value} {u v:Value} {xs:List α} {ys:List β} (h:OwnRd w base e rd size u xs) (h':Owns w base' e' size' en' v ys) (he:e≠e') (hl:Lasts rd) (ha:Apt rd e') (hg:w.grownBy w1 v.ownBlock):OwnRd w1 base e rd size u xs:=by
 obtain⟨rows,h1,h2⟩:=h;exact⟨rows,h1.grown2 h' he hg,h2.mono fun x r hr=>rd_grown h' hg hl ha hr⟩
theorem heap_grown2 {β:Type} {w w1:World} {base':Nat} {e' T:TypeId} {size':Nat} {en':β→List Value} {v:Value} {ys:List β} {k:Nat} {C:Array Value} (h:w.heap[k]? = some (.cells C T)) (h':Owns w base' e' size' en' v ys) (he:T≠e') (hg:w.grownBy w1 v.ownBlock):w1.heap[k]? = some (.cells C T):=by
 refine(hg.block k (gE h) fun hv=>?_).trans h;obtain⟨C',fz,hkk⟩:=Lib.ownsRow_kind h' k hv.symm;rw[h]at hkk;cases hkk
 exact he rfl
section
variable {P:Program} {ops:Array Oper} {Q:Exit→Act→World→Prop} {md:Region.Mode} {T:World→Prop} {p:Nat}
def wpAnyL (P:Program) (md:Region.Mode) (ops:Array Oper) (Q:Exit→Act→World→Prop) (p:Nat) (T:World→Prop):Nat→Array Bool→Act→World→Prop
 | 0,listed,a,w=>Region.ready md ops listed=[]∧Q .normal a w
 | fuel+1,listed,a,w=>
  (Region.ready md ops listed=[]→Q .normal a w) ∧
  ∀ i∈Region.ready md ops listed,wpOp P ops Q i (fun a' w'=>((listed.setIfInBounds i true).getD p true=false→T w')∧wpAnyL P md ops Q p T fuel (listed.setIfInBounds i true) a' w') a w
theorem wpAny_of_L:∀ (fuel:Nat) (listed:Array Bool) (a:Act) (w:World),wpAnyL P md ops Q p T fuel listed a w→wpAny P md ops Q fuel listed a w
 | 0,_,_,_,h=>h
 | fuel+1,_,_,_,h=>⟨h.1,fun i hi=>wpOp_mono (fun a' w' h'=>wpAny_of_L fuel _ a' w' h'.2) (h.2 i hi)⟩
def waitsB (md:Region.Mode) (ops:Array Oper) (p i:Nat):Bool:=match ops[p]? with
 | some o=>o.after.any fun e=>Region.binds md e && e.on == i
 | none=>false
theorem wpAnyL_first {i:Nat} {oi:Oper} {v:Value} (hi:ops[i]? = some oi) (hsel:∀ (j:Nat) (o:Oper) cs b,ops[j]? = some o→o.op≠.select cs b)
  (hQ:∀ c a w,Q (.panic c) (a.put oi.dst v) w→Q (.panic c) a w) (hip:i≠p) (hwt:waitsB md ops p i=true) :
  ∀ (fuel:Nat) (listed:Array Bool) (a:Act) (w:World),
   (∀ j oj,ops[j]? = some oj→j≠i→listed.getD j true=false→(∀ e∈oj.after,Region.binds md e=true→e.on≠i)→oi.apart ops oj=true) →
   i∈Region.ready md ops listed→YieldsIf P ops T oi v a→T w→listed.getD p true=false →
   wpAnyL P md ops Q p T fuel (listed.setIfInBounds i true) (a.put oi.dst v) w→wpAnyL P md ops Q p T (fuel+1) listed a w:=by
 have hpj:∀ (listed:Array Bool) (j:Nat),i∈Region.ready md ops listed→j∈Region.ready md ops listed→j≠p:=by
  rintro listed j hr hj rfl;obtain⟨_,oj,hoj,hall⟩:=mem_ready.1 hj;unfold waitsB at hwt;rw[hoj]at hwt;simp only[Array.any_eq_true]at hwt;obtain⟨q,hq,hb⟩:=hwt;simp only[Bool.and_eq_true,beq_iff_eq]at hb;have h1:=hall _ (Array.getElem_mem hq) hb.1;have h0:=(mem_ready.1 hr).1;rw[hb.2]at h1;rcases Nat.lt_or_ge i listed.size with h' | h'
  ·simp[h']at h0 h1;rw[h0]at h1;cases h1
  ·simp[Array.getElem?_eq_none h']at h1
 intro fuel
 induction fuel with
 | zero=>
  intro listed a w _ hr hy hT _ H;refine⟨fun h=>(by rw[h]at hr;cases hr),fun j hj=>?_⟩;by_cases hji:j=i
  ·subst hji;exact hy.wpOp hi hT ⟨fun _=>hT,H⟩
  ·have:=ready_mono hj hji;rw[H.1]at this;cases this
 | succ fuel ih=>
  intro listed a w hfree hr hy hT hp H;refine⟨fun h=>(by rw[h]at hr;cases hr),fun j hj=>?_⟩;by_cases hji:j=i
  ·subst hji;exact hy.wpOp hi hT ⟨fun _=>hT,H⟩
  ·have hjp:=hpj listed j hr hj;have h1:=H.2 j (ready_mono hj hji);obtain⟨hjun,oj,hoj,hall⟩:=mem_ready.1 hj;have hnot:∀ e∈oj.after,Region.binds md e=true→e.on≠i:=fun e he hb heq=>by
    have h1:=hall e he hb;have h0:=(mem_ready.1 hr).1;rw[heq]at h1;rcases Nat.lt_or_ge i listed.size with h' | h'
    ·simp[h']at h0 h1;rw[h0]at h1;cases h1
    ·simp[Array.getElem?_eq_none h']at h1
   have h2:=wpOp_putIf hoj (hfree j oj hoj hji hjun hnot) (fun cs b=>hsel i oi cs b hi) (fun cs b=>hsel j oj cs b hoj) hQ hy h1;have hfree':∀ k ok,ops[k]? = some ok→k≠i→(listed.setIfInBounds j true).getD k true=false →
     (∀ e∈ok.after,Region.binds md e=true→e.on≠i)→oi.apart ops ok=true:=fun k ok hk hki hun hno=>by
    refine hfree k ok hk hki ?_ hno;by_cases hjk:j=k
    ·subst hjk;exact hjun
    ·rw[getD_set_ne true hjk]at hun;exact hun
   have hp1:(listed.setIfInBounds j true).getD p true=false:=(by rw[getD_set_ne true hjp];exact hp);have hp2:((listed.setIfInBounds i true).setIfInBounds j true).getD p true=false:=(by rw[getD_set_ne true hjp,getD_set_ne true hip];exact hp);refine wpOp_mono (fun a' w' h3=>⟨fun _=>h3.2.1 hp2,ih (listed.setIfInBounds j true) a' w' hfree' (ready_mono hr (Ne.symm hji)) h3.1 (h3.2.1 hp2) hp1 ?_⟩) h2;rw[Array.setIfInBounds_comm _ _ hji];exact h3.2.2
theorem heldL_take (i:Nat) {oi:Oper} {v:Value} {fuel:Nat} {listed:Array Bool} {a:Act} {w:World} (hi:ops.toList[i]? = some oi)
  (hs:Region.noSelect ops=true) (hf:Region.free md ops listed i=true) (hr:(Region.ready md ops listed).contains i=true) (hip:(i == p)=false) (hwt:waitsB md ops p i=true) (hpu:listed.getD p true=false)
  (hQ:∀ c a w,Q (.panic c) (a.put oi.dst v) w→Q (.panic c) a w) (hT:T w) (hy:YieldsIf P ops T oi v a)
  (h:wpAnyL P md ops Q p T fuel (listed.setIfInBounds i true) (a.put oi.dst v) w):wpAnyL P md ops Q p T (fuel+1) listed a w:=by
 have hi':ops[i]? = some oi:=(by rw[← Array.getElem?_toList];exact hi);exact wpAnyL_first hi' (Region.noSelect_spec hs) hQ (by simpa using hip) hwt fuel listed a w (Region.free_spec hi' hf) (by simpa using hr) hy hT hpu h
theorem hL (i:Nat) {oi:Oper} {v:Value} {fuel:Nat} {listed:Array Bool} {a:Act} {w:World} (h:wpAnyL P md ops Q p T fuel (listed.setIfInBounds i true) (a.put oi.dst v) w) (hi:ops.toList[i]? = some oi:=by rfl)
  (hs:Region.noSelect ops=true:=by kernel_rfl) (hf:Region.free md ops listed i=true:=by kernel_rfl) (hr:(Region.ready md ops listed).contains i=true:=by kernel_rfl) (hip:(i == p)=false:=by kernel_rfl) (hwt:waitsB md ops p i=true:=by kernel_rfl) (hpu:listed.getD p true=false:=by kernel_rfl)
  (hQ:∀ c a w,Q (.panic c) (a.put oi.dst v) w→Q (.panic c) a w:=by exact fun _ _ _ h=>h) (hT:T w:=by assumption)
  (hy:YieldsIf P ops T oi v a:=by first|(refine Or.inr ⟨?_,?_⟩<;>rfl)|(refine Or.inl ⟨by rfl,?_⟩;intro w hSw;(try dsimp only at hSw);first|(go_simp;done)|(go_simp;with_reducible rfl))):wpAnyL P md ops Q p T (fuel+1) listed a w:=
 heldL_take i hi hs hf hr hip hwt hpu hQ hT hy h
theorem heldL_call (i:Nat) {o:Oper} {fuel:Nat} {listed:Array Bool} {a:Act} {w:World} (ho:ops.toList[i]? = some o) (hr:Region.ready md ops listed=[i])
  (h:∀ K':Act→World→Prop,Shut (∀ a w,T w→(T w→wpAnyL P md ops Q p T fuel (listed.setIfInBounds i true) a w)→K' a w)→if Region.wanted o (yielded ops a.tmps)=true then Oper.wp P o a w K' Q else K' (a.put o.dst undef) w) :
  wpAnyL P md ops Q p T (fuel+1) listed a w:=by
 have ho':ops[i]? = some o:=(by rw[← Array.getElem?_toList];exact ho);refine⟨(fun h0=>by rw[hr]at h0;cases h0),fun j hj=>?_⟩;rw[hr]at hj;obtain rfl:j=i:=by simpa using hj
 exact wpOp_step ho' (fun K' hK=>h K' (fun a w hT hW=>hK a w ⟨fun _=>hT,hW hT⟩))
theorem heldL_last (i:Nat) {o:Oper} {fuel:Nat} {listed:Array Bool} {a:Act} {w:World} (ho:ops.toList[i]? = some o) (hr:Region.ready md ops listed=[i]) (hp:(listed.setIfInBounds i true).getD p true=true)
  (h:∀ K':Act→World→Prop,Shut (∀ a w,wpAnyL P md ops Q p T fuel (listed.setIfInBounds i true) a w→K' a w)→if Region.wanted o (yielded ops a.tmps)=true then Oper.wp P o a w K' Q else K' (a.put o.dst undef) w) :
  wpAnyL P md ops Q p T (fuel+1) listed a w:=by
 have ho':ops[i]? = some o:=(by rw[← Array.getElem?_toList];exact ho);refine⟨(fun h0=>by rw[hr]at h0;cases h0),fun j hj=>?_⟩;rw[hr]at hj;obtain rfl:j=i:=by simpa using hj
 exact wpOp_step ho' (fun K' hK=>h K' (fun a w hW=>hK a w ⟨fun h0=>(by rw[hp]at h0;cases h0),hW⟩))
theorem wpAnyL_done {listed:Array Bool} {a:Act} {w:World} (hr:Region.ready md ops listed=[]) (h:Q .normal a w):∀ fuel,wpAnyL P md ops Q p T fuel listed a w
 | 0=>⟨hr,h⟩
 | _+1=>⟨fun _=>h,by rw[hr];simp⟩
theorem wp_region_heldL {id:Nat} {a:Act} {w:World} (p:Nat) (T:World→Prop) (hm:P.follows .mixedOrders=true) (hT:T w.drew)
  (h:T w.drew→wpAnyL P .any ops Q p T ops.size (Array.replicate ops.size false) a w.drew):(Code.region id ops true).wp P Q a w:=
 wp_region_any hm (wpAny_of_L _ _ _ _ (h hT))
end
theorem run_append_sl {α:Type} {en:α→List Value} {P:Program} {w:World} {t ty e:TypeId} {size bytes:Nat} (T:SlTy P t e size bytes)
  {base:Nat} {v:Value} (xs ys:List α) (hen:∀ y,(en y).length=size) (hone:∀ y∈ys,∀ u∈en y,u.oneCell' = true) {ad:Option Addr} {cap:Nat} (hys:SlOf w en size ad cap ys)
  (hown:Owns w base e size en v xs) (hbase:base≤w.heap.size) (hbound:(xs.length+ys.length)*bytes≤140737488355328) :
  ∃ v' w',(Builtin.append_ #[t,t] ty #[v,.slice ad ys.length cap]).run P w=.ok v' w'∧Owns w' base e size en v' (xs++ys)∧w.grownBy w' v.ownBlock:=by
 obtain⟨hu,⟨i,z,hi,hz,h1,h2,h3⟩,hp,hbp⟩:=T;cases ys with
 | nil=>
  obtain⟨a0,c0,rfl,hs0⟩:=hown.shape;refine⟨_,_,run_append_nothing w t t ty e i hu hi a0 xs.length c0 hs0.le _ ?_,by rw[List.append_nil];exact hown,World.grownBy.refl _ _⟩;cases ad with
  | none=>exact Src.ofNil w hu cap
  | some p=>exact Src.ofSlice w hu p 0 cap [] (by simp) (by simp) (by simp)
 | cons y ys=>
  obtain⟨b,o,rfl,-⟩:=Sl.at' hys 0 (by rw[Sl.len hys];simp only[List.length_cons];exact Nat.mul_pos (by omega) hp);have hn:xs.length+(y::ys).length≤maxLen:=by
   have:(xs.length+(y::ys).length)*1≤(xs.length+(y::ys).length)*bytes:=Nat.mul_le_mul_left _ hbp;unfold maxLen;omega
  have hnews:∀ j u,((y::ys).flatMap en)[j]? = some u→w.cell? ((⟨b,o,none⟩:Addr).add j)=some u:=by
   intro j u hu;have hj:j < ((y::ys).flatMap en).length:=(List.getElem?_eq_some_iff.1 hu).1;obtain⟨b,off,e1,e2⟩:=Sl.at' hys j hj;cases e1
   rw[Addr.add_lit,e2];exact hu
  have hone':∀ u∈(y::ys).flatMap en,u.oneCell' = true:=fun u hu=>by
   obtain⟨y,hm,hy⟩:=List.mem_flatMap.1 hu;exact hone y hm u hy
  obtain⟨v',w',hr,g1,g2,_⟩:=run_append_own (P:=P) w base t ty e i z size bytes hu hi hz h1 h2 h3 hp v xs.length (xs.flatMap en) hown ⟨b,o,none⟩ (y::ys).length cap ((y::ys).flatMap en) (by rw[flatMap_length hen]) hnews hone' hn hbound hbase;refine⟨v',w',hr,?_,g2⟩;unfold Owns;rw[List.length_append,List.flatMap_append];exact g1
theorem wpList_append_sl2 {α:Type} {en:α→List Value} {P:Program} {w0 wr:World} {ops:Array Oper} {rest:List Oper} {o:Oper} {a:Act} {Q:Exit→Act→World→Prop} {s x:Operand} {t e:TypeId} {size bytes:Nat} (T:SlTy P t e size bytes)
  {base:Nat} {v:Value} (xs ys:List α) (hen:∀ y,(en y).length=size) (hone:∀ y∈ys,∀ u∈en y,u.oneCell' = true) {ad:Option Addr} {cap:Nat} (hys:SlOf wr en size ad cap ys)
  (hown:Owns wr base e size en v xs) (hbel:Below base w0 wr) (hbase:base≤w0.heap.size) (hbound:(xs.length+ys.length)*bytes≤140737488355328)
  (h:∀ v' w1,Owns w1 base e size en v' (xs++ys)→Below base w0 w1→wr.grownBy w1 v.ownBlock→wpList P ops Q rest (a.put o.dst v') w1)
  (hgd:o.guard=none:=by rfl) (ho:o.op=.call { callee:=.builtin .append,args:=#[s,x],argTypes:=#[t,t] }:=by rfl)
  (hs0:a.eval s=v:=by rfl) (hx:a.eval x=.slice ad ys.length cap:=by rfl):wpList P ops Q (o::rest) a wr:=by
 have hsz:=hbel.size;obtain⟨v',w',hr,g1,g2⟩:=run_append_sl (P:=P) (ty:=o.type) T xs ys hen hone hys hown (by omega) hbound;refine wpList_plain hgd fun K hK=>?_
 unfold Oper.wp execOp;simp only[ho,resolve,invoke,builtin,Sem.run_bind,Sem.run_pure,Result.andThen_ok,List.map_toArray,List.map_cons,List.map_nil,hs0,hx,hr];exact hK _ _ (h v' w' g1 (hbel.grown g2 (by omega) (fun k hk=>(World.ownsRow.lt hown k hk).1)) g2)
theorem step_append_sl2 {α:Type} {en:α→List Value} {P:Program} {w0 wr:World} {ops:Array Oper} {o:Oper} {a:Act} {K:Act→World→Prop} {Q:Exit→Act→World→Prop} {E:Prop} {s x:Operand} {t e:TypeId} {size bytes:Nat} (T:SlTy P t e size bytes)
  {base:Nat} {v:Value} (xs ys:List α) (hen:∀ y,(en y).length=size) (hone:∀ y∈ys,∀ u∈en y,u.oneCell' = true) {ad:Option Addr} {cap:Nat} (hys:SlOf wr en size ad cap ys)
  (hown:Owns wr base e size en v xs) (hbel:Below base w0 wr) (hbase:base≤w0.heap.size) (hbound:(xs.length+ys.length)*bytes≤140737488355328)
  (h:∀ v' w1,Owns w1 base e size en v' (xs++ys)→Below base w0 w1→wr.grownBy w1 v.ownBlock→K (a.put o.dst v') w1)
  (hgd:o.guard=none:=by rfl) (ho:o.op=.call { callee:=.builtin .append,args:=#[s,x],argTypes:=#[t,t] }:=by rfl)
  (hs0:a.eval s=v:=by rfl) (hx:a.eval x=.slice ad ys.length cap:=by rfl):if Region.wanted o (yielded ops a.tmps)=true then Oper.wp P o a wr K Q else E:=by
 have hsz:=hbel.size;obtain⟨v',w',hr,g1,g2⟩:=run_append_sl (P:=P) (ty:=o.type) T xs ys hen hone hys hown (by omega) hbound;rw[if_pos (by simp[Region.wanted,hgd])];unfold Oper.wp execOp;simp only[ho,resolve,invoke,builtin,Sem.run_bind,Sem.run_pure,Result.andThen_ok,List.map_toArray,List.map_cons,List.map_nil,hs0,hx,hr];exact h v' w' g1 (hbel.grown g2 (by omega) (fun k hk=>(World.ownsRow.lt hown k hk).1)) g2
end Go.Proofs.YtkblpaabknjckaaGreatDoor
