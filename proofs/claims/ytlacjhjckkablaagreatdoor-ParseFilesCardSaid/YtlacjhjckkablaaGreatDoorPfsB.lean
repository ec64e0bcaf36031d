/-
  The walk of ParseFiles where the source is taken.
-/
import Derived.Test.YtlacjhjckkablaaGreatDoorNotA
import Derived.Test.YtlacjhjckkablaaGreatDoorPrsO
import Derived.Test.YtlacjhjckkablaaGreatDoorPfsM
import Derived.Test.YtlacjhjckkablaaGreatDoorBaseD
import Derived.Test.YtlacjhjckkablaaGreatDoorAtF
import Derived.Test.YtlacjhjckkablaaGreatDoorBokD
import Derived.Test.YtlacjhjckkablaaGreatDoorHeldP
set_option maxHeartbeats 128000000
set_option linter.unusedVariables false
set_option linter.unusedSimpArgs false
namespace Go.Proofs.YtlacjhjckkablaaGreatDoor
open Go.RowKit
def OwnT {α:Type} (w:World) (e:TypeId) (size:Nat) (en:α→List Value) (x:(Value×List α)×Nat×Nat):Prop:=Owns w x.2.1 e size en x.1.1 x.1.2∧∀ k,x.1.1.ownBlock=some k→k < x.2.2
theorem Chn.less {α:Type} {a b:Nat} {l:List (α×Nat×Nat)} (h:Chn a l b):∀ (i j:Nat) (hi:i < l.length) (hj:j < l.length),i < j→l[i].2.2≤l[j].2.1:=by
 induction h with
 | nil h=>intro i j hi;cases hi
 | cons h3 h4 h5 ih=>
  intro i j hi hj hij;cases j with
  | zero=>omega
  | succ j=>
   rw[List.getElem_cons_succ];cases i with
   | zero=>
    rw[List.getElem_cons_zero];exact(h5.ge _ (List.getElem_mem _)).1
   | succ i=>
    rw[List.getElem_cons_succ];exact ih i j _ _ (by omega)
theorem Chn.apart {α:Type} {w:World} {e:TypeId} {size:Nat} {en:α→List Value} {a b:Nat} {l:List ((Value×List α)×Nat×Nat)} (h:Chn a l b) (ho:∀ x∈l,OwnT w e size en x) (i j:Nat) (hi:i < l.length) (hj:j < l.length) (hij:i≠j):Apart l[i].1.1 l[j].1.1:=by
 have key:∀ (i j:Nat) (hi:i < l.length) (hj:j < l.length),i < j→Apart l[i].1.1 l[j].1.1:=fun i j hi hj hij k h1 h2=>by
  have h3:=h.less i j hi hj hij;have h4:=(ho _ (List.getElem_mem hi)).2 k h1;have h5:=((ho _ (List.getElem_mem hj)).1.lt k h2).1;omega
 rcases Nat.lt_or_gt_of_ne hij with h1|h1
 ·exact key i j hi hj h1
 ·exact(key j i hj hi h1).symm
theorem sigs_of {w:World} {T:List (SigX×Nat×Nat)} {rows:List (Row 19)} (h:All2 (fun x (r:Row 19)=>fdSigT w x r.1) T rows):∀ {a b:Nat},Chn a T b→∃ (TX:List ((Value×List (List UInt8))×Nat×Nat)) (ds:List (SigD×Value)),
  ds.map (·.2)=TX.map (·.1.1)∧ds.length=T.length∧Chn a TX b∧(∀ x∈TX,OwnT w 9 1 enTx x)∧All2 (fun (p:SigD×Value) (r:Row 19)=>r.1=(p.1.cells p.2).toList) ds rows∧(∀ p∈ds,∃ a n c,p.2=.slice a n c)∧TX.map (·.1.2)=T.map (·.1.rs):=by
 induction h with
 | nil=>
  intro a b hc;exact⟨[],[],rfl,rfl,.nil hc.le,(by intro x hx;cases hx),.nil,(by intro x hx;cases hx),rfl⟩
 | @cons x y xs ys hx hr ih=>
  intro a b hc;obtain⟨x,lo,hi⟩:=x;cases hc with
  | cons h3 h4 h5=>
   obtain⟨TX,ds,g1,g2,g3,g4,g5,g6,g7⟩:=ih h5;obtain⟨v,e1,o1,o2⟩:=hx;refine⟨((v,x.rs),lo,hi)::TX,(x.d,v)::ds,by simp[g1],by simp[g2],.cons h3 h4 g3,?_,.cons e1 g5,?_,by simp[g7]⟩
   ·intro y hy;rcases List.mem_cons.1 hy with rfl|hy
    ·exact⟨o1,o2⟩
    ·exact g4 y hy
   ·intro p hp;rcases List.mem_cons.1 hp with rfl|hp
    ·obtain⟨a,c,e,-⟩:=o1.shape;exact⟨_,_,_,e⟩
    ·exact g6 p hp
def nTx:NodeD→Nat
 | .sta _=>1
 | .msg m=>m.sigs.length
 | _=>0
def nRw:NodeD→Nat
 | .tab _=>1
 | _=>0
def nSg:NodeD→Nat
 | .msg _=>1
 | _=>0
def NodeBd:NodeD→Prop
 | .ver _=>True
 | .sta s=>s.names.length≤4000001
 | .msg m=>MsgBd m
 | .tab t=>t.rows.length≤256
structure Parts (w:World) (kb a b:Nat) (T:List NodeD) (L:List NodB) (TX:List ((Value×List (List UInt8))×Nat×Nat)) (RW:List ((Value×List (Int×List UInt8))×Nat×Nat)) (SG:List ((Value×List (Row 19))×Nat×Nat)):Prop where
 len:L.length=T.length
 ok:∀ y∈L,y.OK w kb
 tx:L.flatMap NodB.tx=TX.map (·.1.1)
 rw:L.flatMap NodB.rw=RW.map (·.1.1)
 sg:L.flatMap NodB.sg=SG.map (·.1.1)
 txo:∀ x∈TX,OwnT w 9 1 enTx x
 rwo:∀ x∈RW,OwnT w 178 2 enRw x
 sgo:∀ x∈SG,OwnT w 82 19 Row.en x
 txc:Chn a TX b
 rwc:Chn a RW b
 sgc:Chn a SG b
 txb:∀ x∈TX,x.1.2.length≤4000001
 rwb:∀ x∈RW,x.1.2.length≤256
 sgb:∀ x∈SG,x.1.2.length≤64
 txn:TX.length=(T.map nTx).sum
 rwn:RW.length=(T.map nRw).sum
 sgn:SG.length=(T.map nSg).sum
theorem forall_cons {α:Type} {P:α→Prop} {x:α} {l:List α} (h1:P x) (h2:∀ y∈l,P y):∀ y∈x::l,P y:=fun y hy=>by
 rcases List.mem_cons.1 hy with rfl|hy
 ·exact h1
 ·exact h2 y hy
theorem forall_app {α:Type} {P:α→Prop} {k l:List α} (h1:∀ y∈k,P y) (h2:∀ y∈l,P y):∀ y∈k++l,P y:=fun y hy=>by
 rcases List.mem_append.1 hy with hy|hy
 ·exact h1 y hy
 ·exact h2 y hy
theorem parts_of {w:World} {kb bz:Nat} (hkb:kb < w.heap.size) (hz:bz < w.heap.size) (hzk:bz≠kb) {T:List (NodeD×Nat×Nat)} {rows:List (Row 1)} (h:All2 (fun x (r:Row 1)=>fdNodT w x r.1) T rows):∀ {a b:Nat},Chn a T b→b≤kb→(∀ x∈T,NodeBd x.1) →
  ∃ (L:List NodB) (TX:List ((Value×List (List UInt8))×Nat×Nat)) (RW:List ((Value×List (Int×List UInt8))×Nat×Nat)) (SG:List ((Value×List (Row 19))×Nat×Nat)),
   Parts w kb a b (T.map Prod.fst) L TX RW SG∧All2 (fun (y:NodB) (r:Row 1)=>r.1=[y.val]) L rows:=by
 induction h with
 | nil=>
  intro a b hc hb _;exact⟨[],[],[],[],⟨rfl,(by intro x hx;cases hx),rfl,rfl,rfl,(by intro x hx;cases hx),(by intro x hx;cases hx),(by intro x hx;cases hx),.nil hc.le,.nil hc.le,.nil hc.le,(by intro x hx;cases hx),(by intro x hx;cases hx),(by intro x hx;cases hx),rfl,rfl,rfl⟩,.nil⟩
 | @cons x r xs ys hx hr ih=>
  intro a b hc hb hbd;obtain⟨x,lo,hi⟩:=x;cases hc with
  | cons h3 h4 h5=>
   obtain⟨L,TX,RW,SG,P,hL⟩:=ih h5 hb fun y hy=>hbd y (List.mem_cons_of_mem _ hy)
   have hn:=hbd _ (List.mem_cons_self ..);have hah:a≤hi:=Nat.le_trans h3 h4;have hhb:=h5.le;cases x with
   | ver v=>
    refine⟨.ver v.cells::L,TX,RW,SG,⟨by simp[P.len],forall_cons trivial P.ok,P.tx,P.rw,P.sg,P.txo,P.rwo,P.sgo,P.txc.low hah,P.rwc.low hah,P.sgc.low hah,P.txb,P.rwb,P.sgb,?_,?_,?_⟩,.cons hx hL⟩
    ·simpa [nTx]using P.txn
    ·simpa [nRw]using P.rwn
    ·simpa [nSg]using P.sgn
   | sta s=>
    obtain⟨C,e1,v,e2,o1,o2⟩:=hx;obtain rfl:=Array.toList_inj.1 e2;obtain⟨sa,sc,ev,-⟩:=o1.shape;refine⟨.sta s sa s.names.length sc::L,((v,s.names),lo,hi)::TX,RW,SG,⟨by simp[P.len],forall_cons trivial P.ok,?_,P.rw,P.sg,forall_cons ⟨o1,o2⟩ P.txo,P.rwo,P.sgo,.cons h3 h4 P.txc,P.rwc.low hah,P.sgc.low hah,forall_cons hn P.txb,P.rwb,P.sgb,?_,?_,?_⟩,.cons ?_ hL⟩
    ·simp[NodB.tx,P.tx,ev]
    ·simp[nTx,P.txn,Nat.add_comm]
    ·simpa [nRw]using P.rwn
    ·simpa [nSg]using P.sgn
    ·rw[e1,ev];rfl
   | tab s=>
    obtain⟨C,e1,v,e2,o1,o2⟩:=hx;obtain rfl:=Array.toList_inj.1 e2;obtain⟨sa,sc,ev,-⟩:=o1.shape;refine⟨.tab s sa s.rows.length sc::L,TX,((v,s.rows),lo,hi)::RW,SG,⟨by simp[P.len],forall_cons trivial P.ok,P.tx,?_,P.sg,P.txo,forall_cons ⟨o1,o2⟩ P.rwo,P.sgo,P.txc.low hah,.cons h3 h4 P.rwc,P.sgc.low hah,P.txb,forall_cons hn P.rwb,P.sgb,?_,?_,?_⟩,.cons ?_ hL⟩
    ·simp[NodB.rw,P.rw,ev]
    ·simpa [nTx]using P.txn
    ·simp[nRw,P.rwn,Nat.add_comm]
    ·simpa [nSg]using P.sgn
    ·rw[e1,ev];rfl
   | msg m=>
    obtain⟨C,e1,v,T2,e2,⟨rows2,o1,oa⟩,e3,hch,o2⟩:=hx;obtain rfl:=Array.toList_inj.1 e2;obtain⟨TX2,ds,g1,g2,g3,g4,g5,g6,g7⟩:=sigs_of oa hch;have hlen:=oa.len;have hms:T2.length=m.sigs.length:=(by rw[← e3,List.length_map]);obtain⟨sa,sc,ev,hsl⟩:=o1.shape;have htl:TX2.length=m.sigs.length:=by
     have:=congrArg List.length g1;simp only[List.length_map]at this;omega
    obtain⟨sb,so,k1,k2,k3,k4⟩:∃ sb so,sb < w.heap.size∧sb≠kb∧(∀ i (hi:i < ds.length),w.rangeAt sb (so+i*19) (ds[i].1.cells ds[i].2).toList)∧(0 < ds.length→sa=some ⟨sb,so,none⟩):=by
     by_cases h0:0 < ds.length
     ·obtain⟨g,cap,hv,hb1,hb2,-,-⟩:=o1.block (by omega);rw[ev]at hv;cases hv
      have hgk:g < hi:=o2 g (by rw[ev];rfl);refine⟨g,0,hb2,by omega,fun i hi=>?_,fun _=>rfl⟩;obtain⟨b',o',e,-,hc'⟩:=SlOf.cells hsl Row.en_len (by decide) (k:=i) (by omega);cases e
      have hrow:=g5.get hi (by omega);intro j u hu;have hj:j < 19:=by
       have:=(List.getElem?_eq_some_iff.1 hu).1;rw[← hrow,rows2[i].2]at this;exact this
      rw[Nat.add_assoc,hc' j hj];unfold Row.en;rw[hrow];exact hu
     ·exact⟨bz,0,hz,hzk,fun i hi=>by omega,fun h=>absurd h h0⟩
    refine⟨.msg m ds sb so sc sa::L,TX2++TX,RW,((v,rows2),lo,hi)::SG,⟨by simp[P.len],forall_cons ⟨g6,k1,k2,k3,k4⟩ P.ok,?_,P.rw,?_,forall_app g4 P.txo,P.rwo,forall_cons ⟨o1,o2⟩ P.sgo,(g3.low h3).app P.txc,P.rwc.low hah,.cons h3 h4 P.sgc,forall_app ?_ P.txb,P.rwb,forall_cons ?_ P.sgb,?_,?_,?_⟩,.cons ?_ hL⟩
    ·simp[NodB.tx,P.tx,g1]
    ·have:ds.length=rows2.length:=by omega
     simp[NodB.sg,P.sg,ev,this]
    ·intro x hx;have hx2:x.1.2∈T2.map (·.1.rs):=(by rw[← g7];exact List.mem_map.2 ⟨x,hx,rfl⟩);obtain⟨y,hy,e⟩:=List.mem_map.1 hx2;rw[← e];exact hn.2 y.1 (by rw[← e3];exact List.mem_map.2 ⟨y,hy,rfl⟩)
    ·have:=hn.1;show rows2.length≤64;omega
    ·simp[nTx,P.txn,htl]
    ·simpa [nRw]using P.rwn
    ·simp[nSg,P.sgn,Nat.add_comm]
    ·have:ds.length=rows2.length:=by omega
     rw[e1,ev];simp only[NodB.val];rw[this]
theorem sum_le (l:List MsgD) (h:∀ m∈l,MsgBd m):((l.map NodeD.msg).map nTx).sum≤64*l.length:=by
 induction l with
 | nil=>simp
 | cons m l ih=>
  have h1:=(h m (by simp)).1;have h2:=ih fun x hx=>h x (by simp[hx])
  simp only[List.map_cons,List.sum_cons,List.length_cons,nTx]at h2 ⊢;omega
theorem sum_msg {f:NodeD→Nat} {c:Nat} (l:List MsgD) (hf:∀ m,f (.msg m)=c):((l.map NodeD.msg).map f).sum=c*l.length:=by
 induction l with
 | nil=>simp
 | cons m l ih=>simp only[List.map_cons,List.sum_cons,List.length_cons,ih,hf];rw[Nat.mul_succ,Nat.add_comm]
theorem sum_tab {f:NodeD→Nat} {c:Nat} (l:List TabD) (hf:∀ m,f (.tab m)=c):((l.map NodeD.tab).map f).sum=c*l.length:=by
 induction l with
 | nil=>simp
 | cons m l ih=>simp only[List.map_cons,List.sum_cons,List.length_cons,ih,hf];rw[Nat.mul_succ,Nat.add_comm]
theorem nods_counts {d:DbD} {n:Nat} (h:DbBd d n):((nodsD d).map nTx).sum≤32769∧((nodsD d).map nRw).sum*4≤n∧((nodsD d).map nSg).sum≤512∧(nodsD d).length*4≤n+2056∧∀ x∈nodsD d,NodeBd x:=by
 have h1:=sum_le d.msgs h.msg;have h2:=h.mln;have h3:=h.tln;have v1:∀ f:NodeD→Nat,f (.ver d.ver)=0→((if d.has then [NodeD.ver d.ver] else []).map f).sum=0:=fun f hf=>by cases d.has<;>simp[hf]
 unfold nodsD;refine⟨?_,?_,?_,?_,?_⟩
 ·simp only[List.map_append,List.map_cons,List.sum_append,List.sum_cons];rw[v1 nTx rfl,sum_tab (c:=0) d.tabs (fun _=>rfl)];simp only[nTx];omega
 ·simp only[List.map_append,List.map_cons,List.sum_append,List.sum_cons];rw[v1 nRw rfl,sum_tab (c:=1) d.tabs (fun _=>rfl),sum_msg (c:=0) d.msgs (fun _=>rfl)];simp only[nRw];omega
 ·simp only[List.map_append,List.map_cons,List.sum_append,List.sum_cons];rw[v1 nSg rfl,sum_tab (c:=0) d.tabs (fun _=>rfl),sum_msg (c:=1) d.msgs (fun _=>rfl)];simp only[nSg];omega
 ·have:(if d.has then [NodeD.ver d.ver] else []).length≤1:=by cases d.has<;>simp
  simp only[List.length_append,List.length_cons,List.length_map];omega
 ·refine forall_app (fun x hx=>?_) (forall_cons h.nam (forall_app (fun x hx=>?_) fun x hx=>?_))
  ·cases hd:d.has<;>simp[hd]at hx
   subst hx;trivial
  ·obtain⟨m,hm,rfl⟩:=List.mem_map.1 hx;exact h.msg m hm
  ·obtain⟨t,ht,rfl⟩:=List.mem_map.1 hx;exact h.tab t ht
open Go.Proofs.Tryz
open Go.RowKit Go.Shelf
theorem FileW.laid {w:World} (h:FileW w):LaidT w:=h.ert
structure TwoAt (w w':World) (D:Array Value) (L C:Int):Prop where
  db:w'.heap[w.heap.size]? = some (.cells D 37)
  pl:Blk w' (w.heap.size+1) #[.int .i64 L,.int .i64 C]
  bel:Below w.heap.size w w'
theorem twoAt (w:World) (D:Array Value) (L C:Int):TwoAt w (((((w.alloc (.cells zeroDb 37)).alloc (.cells #[.int .i64 0,.int .i64 0] 28)).setRow w.heap.size D).setCell ⟨w.heap.size+1,0,none⟩ (.int .i64 L)).setCell ⟨w.heap.size+1,1,none⟩ (.int .i64 C)) D L C:=by
  have h1:((w.alloc (.cells zeroDb 37)).alloc (.cells #[.int .i64 0,.int .i64 0] 28)).heap[w.heap.size]? = some (.cells zeroDb 37):=by
    rw[Below.heap_alloc _ _ _ (by simp)];exact heap_alloc_new w _
  have h2:((w.alloc (.cells zeroDb 37)).alloc (.cells #[.int .i64 0,.int .i64 0] 28)).heap[w.heap.size+1]? = some (.cells #[.int .i64 0,.int .i64 0] 28):=by
    have:=heap_alloc_new (w.alloc (.cells zeroDb 37)) (.cells #[.int .i64 0,.int .i64 0] 28)
    rwa [World.size_alloc]at this
  have h3:=setRow_heap _ w.heap.size zeroDb D 37 (0,0) h1;have h4:=(heap_setRow_other ((w.alloc (.cells zeroDb 37)).alloc (.cells #[.int .i64 0,.int .i64 0] 28)) w.heap.size (w.heap.size+1) D (by omega)).trans h2;have h5:=set_at h4 0 (.int .i64 L);have h6:=set_at h5 1 (.int .i64 C);refine⟨?_,⟨_,h6⟩,?_⟩
  · rw[Below.heap_setCell _ _ _ _ (show w.heap.size≠w.heap.size+1 by omega),Below.heap_setCell _ _ _ _ (show w.heap.size≠w.heap.size+1 by omega)]
    exact h3
  · have g1:Below w.heap.size w ((w.alloc (.cells zeroDb 37)).alloc (.cells #[.int .i64 0,.int .i64 0] 28)):=((Below.refl _ _).alloc lrf _).alloc (by simp) _
    have g2:=below_row g1 lrf D;exact(below_set g2 (show w.heap.size≤w.heap.size+1 by omega) 0 (.int .i64 L)).trans (below_set (Below.refl _ _) (show w.heap.size≤w.heap.size+1 by omega) 1 (.int .i64 C))
set_option maxRecDepth 100000 in theorem parsefiles_bad (s : List UInt8) (v : Value) (no L C : Int) (he : ErrAt v no L C) (cF : ∀ w, FileW w → Calls prog 5 #[.string ⟨s.toArray⟩] w fun e w' => e = .returned (.tuple #[.slice none 0 0, v]) ∧ Below w.heap.size w w')
    (cR:∀ w,Calls prog 6 #[.string ⟨s.toArray⟩] w fun e w'=>e=.returned (.tuple #[.agg zeroDb,.int .i64 no,.agg #[.int .i64 L,.int .i64 C]])∧Below w.heap.size w w') (w:World) (hW:FileW w) :
    Calls prog 3 #[.string ⟨s.toArray⟩] w fun e w'=>e=.returned (.bool true)∧Below w.heap.size w w':=by
  have HP:Hid ((L=0∧∀ w',LaidT w'→Calls prog 7 #[v,.int .i64 no] w' fun e w''=>e=.returned (.bool true)∧Below w'.heap.size w' w'') ∨
     (0 < L∧∀ w',LaidT w'→Calls prog 8 #[v,.int .i64 no,.int .i64 L,.int .i64 C] w' fun e w''=>e=.returned (.bool true)∧Below w'.heap.size w' w'')):=Qh (by
    obtain⟨h1,h2,h3⟩:=he;rcases h1 with ⟨rfl,rfl,rfl⟩|⟨rfl,h4⟩
    · exact .inl ⟨rfl,fun w' hg=>by simpa using plain_errno no no h2 h3 w' hg⟩
    · exact .inr ⟨h4,fun w' hg=>at_flt no L C h2 h3 w' hg⟩)
  have hn0:(no != 0)=true:=(by have:=he.2.1;rw[bne_iff_ne];omega);have HW:=Qh hW;clear he hW;have hqD:zeroDb.size=9:=rfl;have hq1:zeroDb.all (·.oneCell')=true:=(by simp[Value.oneCell']);go_enter func3,ntmps3
  go_wp2_with fail;with_reducible refine(cF _ HW.out).mono ?_
  rintro e w1 ⟨rfl,hb⟩;replace HW:=Qh (HW.out.keep hb);have HB:=Qh hb;clear hb;go_wp2_with fail;with_reducible refine(cF _ HW.out).mono ?_
  rintro e w2 ⟨rfl,hb⟩;replace HW:=Qh (HW.out.keep hb);replace HB:=Qh (bstep HB.out hb lrf);clear hb cF;go_wp2_with fail;with_reducible refine(cR _).mono ?_
  rintro e w3 ⟨rfl,hb⟩;replace HW:=Qh (HW.out.keep hb);replace HB:=Qh (bstep HB.out hb lrf);clear hb cR;obtain⟨D,hD⟩:∃ D,D=zeroDb:=⟨_,rfl⟩
  rw[← hD]at hqD hq1 ⊢;have HTW:=Qh (twoAt w3 D L C);have b7:Blk ((w3.alloc (.cells zeroDb 37)).alloc (.cells #[.int .i64 0,.int .i64 0] 28)) w3.heap.size zeroDb:=(Blk.new w3 zeroDb 37).alloc _;have b9:Blk (((w3.alloc (.cells zeroDb 37)).alloc (.cells #[.int .i64 0,.int .i64 0] 28)).setRow w3.heap.size D) (w3.heap.size+1) #[.int .i64 0,.int .i64 0]:=by
    have:=Blk.new (w3.alloc (.cells zeroDb 37)) #[.int .i64 0,.int .i64 0] 28;rw[World.size_alloc]at this;exact this.rowOther (by omega) D
  obtain⟨p0,p1,f0,f1⟩:=b9.two;clear hD b9;go_upto_region 4 with (first|(refine wpList_storeS (cs:=D) b7 37 (.tmp 7) (.tmp 25) (by rw[hqD];exact db_size) (by rw[hqD];rfl) hq1 ?_))
  generalize ((((((w3.alloc (.cells zeroDb 37)).alloc (.cells #[.int .i64 0,.int .i64 0] 28)).setRow w3.heap.size D).setCell ⟨w3.heap.size+1,0,none⟩ (.int .i64 L)).setCell ⟨w3.heap.size+1,1,none⟩ (.int .i64 C)))=w4 at *;have HK:=Qh HTW.out.pl;replace HW:=Qh (HW.out.keep HTW.out.bel);replace HB:=Qh (bstep HB.out HTW.out.bel lrf);clear HTW b7 p0 p1 f0 f1 hq1 hqD;rcases HP.out with ⟨rfl,cP⟩|⟨h0,cP⟩
  · obtain⟨q0,q1,-,-⟩:=HK.out.two
    clear HP;go_wp2_with fail;with_reducible refine(cP _ (FileW.laid HW.out)).mono ?_
    rintro e w7 ⟨rfl,hb⟩;replace HW:=Qh (HW.out.keep hb);replace HB:=Qh (bstep HB.out hb lrf);replace HK:=Qh (HK.out.keep hb lrf);clear hb q0 q1;go_wp2_with fail;with_reducible refine(cP _ (FileW.laid HW.out)).mono ?_
    rintro e w8 ⟨rfl,hb⟩;replace HB:=Qh (bstep HB.out hb lrf);replace HK:=Qh (HK.out.keep hb lrf);obtain⟨q0,q1,-,-⟩:=HK.out.two;clear hb cP;go_wp2_with fail;go_ret;exact⟨rfl,HB.out⟩
  · obtain⟨q0,q1,-,-⟩:=HK.out.two
    have hL0:(L == 0)=false:=(by rw[beq_eq_false_iff_ne];omega);clear HP;go_wp2_with fail;with_reducible refine(cP _ (FileW.laid HW.out)).mono ?_
    rintro e w7 ⟨rfl,hb⟩;replace HW:=Qh (HW.out.keep hb);replace HB:=Qh (bstep HB.out hb lrf);replace HK:=Qh (HK.out.keep hb lrf);clear q0 q1;obtain⟨q0,q1,-,-⟩:=HK.out.two;clear hb;go_wp2_with fail;with_reducible refine(cP _ (FileW.laid HW.out)).mono ?_
    rintro e w8 ⟨rfl,hb⟩;replace HB:=Qh (bstep HB.out hb lrf);clear hb cP;go_wp2_with fail;go_ret;exact⟨rfl,HB.out⟩
theorem append_cases2 {P:Program} {w:World} {base:Nat} {t ty e:TypeId} {i:TypeInfo} {z:Value} (ht:P.underlying t=some (.slice e)) (hi:P.info? e=some i) (hz:i.zero=some z)
  {v:Value} {n:Nat} {xs:List Value} (hown:w.ownsRow base e i.size v n xs) {a:Addr} {c:Nat} {news:List Value} (hl:news.length=2*i.size)
  (hnews:∀ j u,news[j]? = some u→w.cell? (a.add j)=some u) (h1:∀ u∈news,u.oneCell' = true) (h63:n+2≤maxLen) (hbytes:(n+2)*i.bytes≤140737488355328)
  {v':Value} {w':World} (hr:(Builtin.append_ #[t,t] ty #[v,.slice (some a) 2 c]).run P w=.ok v' w') :
  (∃ g n cap,v=.slice (some ⟨g,0,none⟩) n cap∧v' = .slice (some ⟨g,0,none⟩) (n+2) cap)∨w.grownBy w' none:=by
 have hsmall:n+2≤9223372036854775807:=(by simp only[maxLen]at h63;omega);rcases hown.2 with ⟨rfl,rfl⟩|⟨g,cap,cur,rfl,hbg,hg,hnc,hcm,hcs,htake⟩
 ·have hr2:=run_append_nil (P:=P) w t ty e i z ht hi hz a 2 c news hl hnews (by omega) (by omega) (by have hb:=hbytes;simp only[Nat.zero_add]at hb;omega);rw[hr2]at hr;cases hr
  exact .inr ⟨rfl,rfl,rfl,by simp,fun k hk _=>(Below.heap_alloc w.drew _ k hk)⟩
 ·by_cases hroom:n+2≤cap
  ·have hfit:n*i.size+news.length≤cur.size:=(by rw[hl,hcs,← Nat.add_mul];exact Nat.mul_le_mul_right _ hroom);have hr2:=run_append_room (P:=P) w t ty e i ht hi g n cap cur hg a 2 c news hl hnews h1 hroom hfit;rw[hr2]at hr;cases hr
   exact .inl ⟨g,n,cap,rfl,rfl⟩
  ·have holds:∀ j u,xs[j]? = some u→w.cell? ((⟨g,0,none⟩:Addr).add j)=some u:=hown.cells (g:=g) rfl;have hr2:=run_append_grow (P:=P) w t ty e i z ht hi hz ⟨g,0,none⟩ n cap xs hown.1 holds a 2 c news hl hnews (by omega) (by omega) (growslice_fits (by omega) hbytes);rw[hr2]at hr;cases hr
   exact .inr ⟨rfl,rfl,rfl,by simp,fun k hk _=>(Below.heap_alloc w.drew _ k hk)⟩
theorem wpList_append_two {α:Type} {rd:World→α→List Value→Prop} (hlast:Lasts rd) {P:Program} {wr:World} {ops:Array Oper} {rest:List Oper} {o:Oper} {a:Act} {Q:Exit→Act→World→Prop} {s x:Operand}
  {t e:TypeId} {size bytes:Nat} (T:SlTy P t e size bytes) {base:Nat} {ad:Option Addr} {n c:Nat} (xs:List α) (hnx:n=xs.length) {cells:Array Value} {ty:TypeId}
  (hown:OwnRd wr base e rd size (.slice ad n c) xs) (hbase:base≤wr.heap.size) (hbound:(n+2)*bytes≤140737488355328) (hsz:cells.size=2*size) (h1:cells.all (·.oneCell')=true) (hap:Apt rd e)
  (h:∀ a' c' w1,OwnRd w1 base e rd size (.slice ad n c) xs→wr.grownBy w1 (Value.slice ad n c).ownBlock→Below base wr w1→wpList P ops Q rest (a.put o.dst (.slice a' (n+2) c')) w1)
  (hgd:o.guard=none:=by rfl) (ho:o.op=.call { callee:=.builtin .append,args:=#[s,x],argTypes:=#[t,t] }:=by rfl)
  (hs:a.eval s=.slice ad n c:=by rfl) (hx:a.eval x=.slice (some ⟨wr.heap.size,0,none⟩) 2 2:=by rfl) :
  wpList P ops Q (o::rest) a (wr.alloc (.cells cells ty)):=by
 subst hnx;obtain⟨rows,hr1,hr2⟩:=hown;have hlen:=hr2.len;have hrest:∀ w1,Owns w1 base e size Row.en (.slice ad xs.length c) rows→wr.grownBy w1 (Value.slice ad xs.length c).ownBlock→OwnRd w1 base e rd size (.slice ad xs.length c) xs:=fun w1 ho hg=>⟨rows,ho,hr2.mono fun z r hz=>rd_grown hr1 hg hlast hap hz⟩
 obtain⟨hu,⟨i,z,hi,hz,g1,g2,g3⟩,hp,hbp⟩:=T;subst g1;subst g2;have hn:rows.length+2≤maxLen:=by
  have:(xs.length+2)*1≤(xs.length+2)*i.bytes:=Nat.mul_le_mul_left _ hbp;unfold maxLen;omega
 have hnews:∀ j u,cells.toList[j]? = some u→(wr.alloc (.cells cells ty)).cell? ((⟨wr.heap.size,0,none⟩:Addr).add j)=some u:=by
  intro j u hu;rw[Addr.add_lit,Nat.zero_add,cell_of_row _ _ _ cells ty (0,0) (heap_alloc_new wr _)];rw[← hu];simp
 have hl:cells.toList.length=2*i.size:=(by rw[Array.length_toList,hsz]);have hone:∀ u∈cells.toList,u.oneCell' = true:=fun u hu=>(Array.all_eq_true_iff_forall_mem.1 h1) u (Array.mem_toList_iff.1 hu)
 rw[hlen]at hbound hs hrest h;refine wpList_plain hgd fun K hK=>?_
 rw[hlen]at hr1;obtain⟨v',w',hr,k1,k2,_⟩:=run_append_own (P:=P) (wr.alloc (.cells cells ty)) base t o.type e i z i.size i.bytes hu hi hz rfl rfl g3 hp (.slice ad rows.length c) rows.length (rows.flatMap Row.en) (World.ownsRow.alloc hr1 _) ⟨wr.heap.size,0,none⟩ 2 2 cells.toList hl hnews hone hn hbound (by simp;omega);have hcs:=append_cases2 hu hi hz (World.ownsRow.alloc hr1 _) hl hnews hone hn hbound hr;unfold Oper.wp execOp;simp only[ho,resolve,invoke,builtin,Sem.run_bind,Sem.run_pure,Result.andThen_ok,List.map_toArray,List.map_cons,List.map_nil,hs,hx,hr];have hgw:wr.grownBy w' (Value.slice ad rows.length c).ownBlock:=⟨k2.os,k2.tape,k2.output,Nat.le_trans (by simp) k2.size,fun k hk hne=>(k2.block k (by simp;omega) hne).trans (Below.heap_alloc wr _ k hk)⟩
 have hbw:Below base wr w':=(Below.refl base wr).grown hgw hbase (fun k hk=>(World.ownsRow.lt hr1 k hk).1);have hkeep:Owns w' base e i.size Row.en (.slice ad rows.length c) rows:=by
  rcases hcs with ⟨g,m,cap,e1,e2⟩|hng
  ·cases e1
   have hk:w'.ownsRow base e i.size (.slice (some ⟨g,0,none⟩) (rows.length+2) c) (rows.length+2) (rows.flatMap Row.en++cells.toList):=(by rw[← e2];exact k1);refine⟨flatMap_length Row.en_len rows,?_⟩;rcases hk.2 with ⟨hv,_⟩|⟨g',cap',cur,hv,hb,hg,hle,hm,hss,htk⟩
   ·cases hv
   ·cases hv
    refine .inr ⟨g,c,cur,rfl,hb,hg,by omega,hm,hss,?_⟩;have:=congrArg (List.take (rows.length*i.size)) htk;have e3:List.take (rows.length*i.size) (List.flatMap Row.en rows++cells.toList)=rows.flatMap Row.en:=by
     rw[← flatMap_length Row.en_len rows];exact List.take_left
    rw[e3,List.take_take,Nat.min_eq_left (Nat.mul_le_mul_right _ (by omega))]at this;exact this
  ·refine hr1.keep (w':=w') ?_ lrf;exact⟨hng.os,hng.tape,hng.output,Nat.le_trans (by simp) hng.size,fun k hk=>(hng.block k (by simp;omega) (by simp)).trans (Below.heap_alloc wr _ k hk)⟩
 obtain⟨a',c',e'⟩:∃ a' c',v' = .slice a' (rows.length+2) c':=by
  rcases k1.2 with ⟨hv,h0⟩|⟨g',cap',cur,hv,_⟩
  ·omega
  ·exact⟨_,_,hv⟩
 rw[e']at *;exact hK _ _ (h a' c' w' (hrest w' hkeep hgw) hgw hbw)
theorem OwnRd.other {α β:Type} {rd:World→α→List Value→Prop} {w w1:World} {base base':Nat} {e e':TypeId} {size size':Nat} {rd':World→β→List Value→Prop} {u v:Value} {xs:List α} {ys:List β} (h:OwnRd w base e rd size u xs) (h':OwnRd w base' e' rd' size' v ys) (hg:w.grownBy w1 v.ownBlock) (ha:Apart v u) (hl:Lasts rd) (hap:Apt rd e'):OwnRd w1 base e rd size u xs:=by
 obtain⟨rows,h1,h2⟩:=h;obtain⟨rows',h3,-⟩:=h';exact⟨rows,h1.other hg ha,h2.mono fun x r hr=>rd_grown h3 hg hl hap hr⟩
theorem OwnRd.lt {α:Type} {rd:World→α→List Value→Prop} {w:World} {base:Nat} {e:TypeId} {size:Nat} {u:Value} {xs:List α} (h:OwnRd w base e rd size u xs):∀ k,u.ownBlock=some k→base≤k∧k < w.heap.size:=by
 obtain⟨rows,h1,-⟩:=h;exact h1.lt
theorem apt_fdDbN (b:Nat) {e:TypeId} (he:9≠e) (hem:77≠e) (het:111≠e) (hes:82≠e) (her:178≠e):Apt (fdDbN b) e:=fun w w' x cs k C fz ⟨u,v,z,h1,h2,h3,h4⟩ hk hz hb=>
 ⟨u,v,z,h1,h2.apt he hk hb,h3.apt hem (apt_fdMsgN b he hes) hk hz hb,h4.apt het (apt_fdTabN b her) hk hz hb⟩
theorem fdMsgN_down {b b':Nat} {w:World} {x:MsgD} {cs:List Value} (h:fdMsgN b w x cs) (hb:b'≤b):fdMsgN b' w x cs:=by
 obtain⟨v,h1,h2⟩:=h;obtain⟨rows,s1,s2⟩:=h2.fromBase hb;exact⟨v,h1,rows,s1,s2.mono fun x r ⟨v,j1,j2⟩=>⟨v,j1,j2.fromBase hb⟩⟩
theorem fdDbN_low {b b':Nat} {w:World} {x:DbD} {cs:List Value} (h:fdDbN b w x cs) (hb:b'≤b):fdDbN b' w x cs:=by
 obtain⟨u,v,z,h1,h2,h3,h4⟩:=h;refine⟨u,v,z,h1,h2.fromBase hb,?_,?_⟩
 ·obtain⟨rows,r1,r2⟩:=h3.fromBase hb;exact⟨rows,r1,r2.mono fun m r hm=>fdMsgN_down hm hb⟩
 ·obtain⟨rows,r1,r2⟩:=h4.fromBase hb;exact⟨rows,r1,r2.mono fun m r ⟨v,k1,k2⟩=>⟨v,k1,k2.fromBase hb⟩⟩
theorem fdDb_shape {b:Nat} {w:World} {x:DbD} {C:Array Value} (h:fdDbN b w x C.toList):C.size=9∧C.all (·.oneCell')=true:=by
 obtain⟨u,v,z,e,h1,h2,h3⟩:=h;obtain rfl:=Array.toList_inj.1 e;obtain⟨a,c,rfl,-⟩:=h1.shape;obtain⟨a,c,rfl,-⟩:=h2.shape;obtain⟨a,c,rfl,-⟩:=h3.shape;exact⟨rfl,by unfold DbD.cells;simp[Value.oneCell']⟩
theorem nodes_tyP:SlTy prog 22 72 1 16:=SlTy.mk' .nilIface underlying22 (by kernel_rfl) rfl (by decide) (by decide)
theorem sl_nodes {w:World} {base:Nat} {T:List (NodeD×Nat×Nat)} {d:DbD} {aa:Option Addr} {N ca:Nat} (h:OwnRd w base 72 fdNodT 1 (.slice aa N ca) T) (hf:T.map Prod.fst=nodsD d):SlRd w rdNode 1 aa ca (nodsD d):=by
 have h2:=h.fst (rd:=fdNode) fun x _ cs hc=>fd_nodT hc
 rw[hf]at h2;obtain⟨a,c,e,hs⟩:=h2.shape;injection e with e1 e2 e3
 rw[e1,e3];exact hs.weak fun _ _=>fd_node
theorem db_rd {b:Nat} {w:World} {d:DbD} {cs:List Value} (h:fdDbN b w d cs):rdDb w d cs:=fd_db (fdDbN_low h (Nat.zero_le _))
theorem parts_at {w:World} {base N ca:Nat} {aa:Option Addr} {rows:List (Row 1)} (ho:Owns w base 72 1 Row.en (.slice aa N ca) rows) {L:List NodB} (hL:All2 (fun (y:NodB) (r:Row 1)=>r.1=[y.val]) L rows) (h0:0 < L.length) :
  ∃ g,aa=some ⟨g,0,none⟩∧base≤g∧g < w.heap.size∧∀ i (hi:i < L.length),w.cell? ⟨g,0+i,none⟩=some L[i].val:=by
 have hlen:=hL.len;obtain⟨g,cap,hv,h1,h2,-,-⟩:=ho.block (by omega);injection hv with e1 e2 e3
 subst e1;refine⟨g,rfl,h1,h2,fun i hi=>?_⟩;obtain⟨b,o,e,-,hc⟩:=SlOf.cells ho.sl.2 Row.en_len (by decide) (k:=i) (by omega);cases e
 have:=hc 0 (by decide);rw[Nat.mul_one,Nat.add_zero]at this;rw[this];unfold Row.en;rw[hL.get hi (by omega)];rfl
theorem Lots.of {α:Type} {w w':World} {kb base a b size:Nat} {e:TypeId} {en:α→List Value} {l:List ((Value×List α)×Nat×Nat)} (hc:Chn a l b) (hb:b≤kb) (ho:∀ x∈l,OwnT w e size en x) (hO:Only kb w w') (ha:base≤a):Lots w' base e size en l:=by
 have key:∀ j (hj:j < l.length),vsOf l j=l[j].1.1∧xsOf l j=l[j].1.2:=fun j hj=>by simp[vsOf,xsOf,hj]
 refine⟨fun j hj=>?_,fun i j hi hj hij=>?_⟩
 ·rw[(key j hj).1,(key j hj).2];have hm:=List.getElem_mem hj;have h1:=ho _ hm;have h2:=hc.ge _ hm;refine(h1.1.fromBase (by omega)).ofBlock fun k hk=>?_
  have h3:=h1.2 k hk;have h4:=h1.1.lt k hk;refine hO.block k h4.2 (by intro hcc;simp at hcc;omega)
 ·rw[(key i hi).1,(key j hj).1];exact hc.apart ho i j hi hj hij
theorem xsOf_le {α:Type} {l:List ((Value×List α)×Nat×Nat)} {B:Nat} (h:∀ x∈l,x.1.2.length≤B) (j:Nat) (hj:j < l.length):(xsOf l j).length≤B:=by
 have:=h _ (List.getElem_mem hj)
 simpa [xsOf,hj]using this
theorem OwnRd.rows {α:Type} {rd:World→α→List Value→Prop} {w:World} {base:Nat} {e:TypeId} {size:Nat} {v:Value} {xs:List α} (h:OwnRd w base e rd size v xs):∃ rows:List (Row size),Owns w base e size Row.en v rows∧All2 (fun x (r:Row size)=>rd w x r.1) xs rows:=h
theorem book0 (w:World):BookAt (w.alloc (.cells #[.slice none 0 0,.slice none 0 0,.slice none 0 0,.slice none 0 0,.slice none 0 0,.slice none 0 0,.slice none 0 0,.slice none 0 0,.slice none 0 0,.slice none 0 0,.slice none 0 0,.slice none 0 0,.slice none 0 0,.slice none 0 0,.slice none 0 0] 60)) (w.alloc (.cells #[.slice none 0 0,.slice none 0 0,.slice none 0 0,.slice none 0 0,.slice none 0 0,.slice none 0 0,.slice none 0 0,.slice none 0 0,.slice none 0 0,.slice none 0 0,.slice none 0 0,.slice none 0 0,.slice none 0 0,.slice none 0 0,.slice none 0 0] 60)) w.heap.size [] [] []:=
 ⟨⟨.slice none 0 0,.slice none 0 0,.slice none 0 0,heap_alloc_new w _,Owns.nil _ _ _ _ _,Owns.nil _ _ _ _ _,Owns.nil _ _ _ _ _⟩,World.grownBy.refl _ _,by simp⟩
theorem file_parts {w:World} {kb a b ca N:Nat} {aa:Option Addr} {T:List (NodeD×Nat×Nat)} {d:DbD} (h:OwnRd w a 72 fdNodT 1 (.slice aa N ca) T) (hf:T.map Prod.fst=nodsD d) (hN:N=(nodsD d).length) (hc:Chn a T b) (hb:b≤kb) (hkb:kb < w.heap.size) (h0:0 < kb) (hbd:∀ x∈nodsD d,NodeBd x) :
  ∃ (L:List NodB) (TX:List ((Value×List (List UInt8))×Nat×Nat)) (RW:List ((Value×List (Int×List UInt8))×Nat×Nat)) (SG:List ((Value×List (Row 19))×Nat×Nat)) (g:Nat),Parts w kb a b (nodsD d) L TX RW SG∧L.length=N∧aa=some ⟨g,0,none⟩∧g < w.heap.size∧(Value.slice aa N ca).ownBlock=some g∧∀ i (hi:i < L.length),w.cell? ⟨g,0+i,none⟩=some L[i].val:=by
 obtain⟨rows,h1,h2⟩:=h;obtain⟨L,TX,RW,SG,P,hL⟩:=parts_of hkb (show 0 < w.heap.size by omega) (by omega) h2 hc hb (fun x hx=>hbd x.1 (by rw[← hf];exact List.mem_map.2 ⟨x,hx,rfl⟩));rw[hf]at P;have hLN:L.length=N:=(by rw[hN];exact P.len);have hpos:0 < L.length:=(by rw[hLN,hN,nods_len];omega);obtain⟨g,e,k1,k2,k3⟩:=parts_at h1 hL hpos;exact⟨L,TX,RW,SG,g,P,hLN,e,k2,by rw[e];rfl,k3⟩
set_option maxRecDepth 100000 in theorem parsefiles_good (s : List UInt8) (d : DbD) (hd : DbBd d 1048577) (cF : ∀ w, FileW w → Calls prog 5 #[.string ⟨s.toArray⟩] w fun e w' => ∃ (v : Value) (T : List (NodeD × Nat × Nat)), e = .returned (.tuple #[v, .nilIface]) ∧ OwnRd w' w.heap.size 72 fdNodT 1 v T ∧ T.map Prod.fst = nodsD d ∧ Chn w.heap.size T w'.heap.size ∧ Below w.heap.size w w')
  (cR:∀ w,Calls prog 6 #[.string ⟨s.toArray⟩] w fun e w'=>∃ D:Array Value,e=.returned (.tuple #[.agg D,.int .i64 0,.agg #[.int .i64 0,.int .i64 0]])∧fdDbN w.heap.size w' d D.toList∧Below w.heap.size w w') (w:World) (hW:FileW w) :
  Calls prog 3 #[.string ⟨s.toArray⟩] w fun e w'=>e=.returned (.bool true)∧Below w.heap.size w w':=by
 obtain⟨n1,n2,n3,n4,n5⟩:=nods_counts hd;have HN:=Qh (And.intro n1 (And.intro n2 (And.intro n3 n5)));obtain⟨N,hN⟩:∃ N,N=(nodsD d).length:=⟨_,rfl⟩
 have hNb:N≤300000:=(by omega);have HNE:=Qh hN;have HW:=Qh hW;have cP:=fun W=>(plain_nil 0 W).mono fun e w' h=>by simpa using h
 have cI:=fun (W:World) (a:Option Addr) (c:Nat) (D:Array Value) (hs:SlRd W rdNode 1 a c (nodsD d)) (hC:rdDb W d D.toList)=>isn_any d N hN (by omega) a c W hs D hC
 clear hd n1 n2 n3 n4 n5 hW hN;go_enter func3,ntmps3
 go_wp2_with fail;with_reducible refine(cF _ HW.out).mono ?_
 rintro e w1 ⟨va,TA,rfl,hoa,hfa,hca,hb⟩;obtain⟨aa,ca,eva,-⟩:=hoa.shape;rw[show TA.length=N by rw[HNE.out,← hfa,List.length_map]]at eva;subst eva;have HFA:=Qh hfa;have HCA:=Qh hca;have HMA:=Qh fun k hk=>(hoa.lt k hk).2
 have HOA:=Qh hoa;replace HW:=Qh (HW.out.keep hb);have hs1:=hb.size;have HB:=Qh hb;clear hb hoa hfa hca;go_wp2_with fail;with_reducible refine(cF _ HW.out).mono ?_
 rintro e w2 ⟨vb,TB,rfl,hob,hfb,hcb,hb⟩;obtain⟨ab,cb,evb,-⟩:=hob.shape;rw[show TB.length=N by rw[HNE.out,← hfb,List.length_map]]at evb;subst evb;have HFB:=Qh hfb;have HCB:=Qh hcb;have HAB:=Qh (show Apart (.slice aa N ca) (.slice ab N cb)from fun k h1 h2=>by have:=HMA.out k h1;have:=(hob.lt k h2).1;omega);have HOB:=Qh hob;replace HOA:=Qh (HOA.out.keep last_fdNodT hb);replace HW:=Qh (HW.out.keep hb);replace HB:=Qh (bstep HB.out hb lrf);have hs2:=hb.size;clear hb cF hob hfb hcb HMA;go_wp2_with fail;with_reducible refine(cR _).mono ?_
 rintro e w3 ⟨D,rfl,hdd,hb⟩;replace HOA:=Qh (HOA.out.keep last_fdNodT hb);replace HOB:=Qh (HOB.out.keep last_fdNodT hb);replace HW:=Qh (HW.out.keep hb);replace HB:=Qh (bstep HB.out hb lrf);have hs3:=hb.size;obtain⟨hqD,hq1⟩:=fdDb_shape hdd;have HD:=Qh hdd;clear hb cR hdd;have HTW:=Qh (twoAt w3 D 0 0);have b7:Blk ((w3.alloc (.cells zeroDb 37)).alloc (.cells #[.int .i64 0,.int .i64 0] 28)) w3.heap.size zeroDb:=(Blk.new w3 zeroDb 37).alloc _;have b9:Blk (((w3.alloc (.cells zeroDb 37)).alloc (.cells #[.int .i64 0,.int .i64 0] 28)).setRow w3.heap.size D) (w3.heap.size+1) #[.int .i64 0,.int .i64 0]:=by
  have:=Blk.new (w3.alloc (.cells zeroDb 37)) #[.int .i64 0,.int .i64 0] 28;rw[World.size_alloc]at this;exact this.rowOther (by omega) D
 obtain⟨p0,p1,f0,f1⟩:=b9.two;have hSZ:(prog.info? 37).map (·.size)=some D.size:=(by rw[hqD];exact db_size);clear b9;go_upto_region 4 with (first|(refine wpList_storeS (cs:=D) b7 37 (.tmp 7) (.tmp 25) hSZ (by rw[hqD];rfl) hq1 ?_))
 generalize ((((((w3.alloc (.cells zeroDb 37)).alloc (.cells #[.int .i64 0,.int .i64 0] 28)).setRow w3.heap.size D).setCell ⟨w3.heap.size+1,0,none⟩ (.int .i64 0)).setCell ⟨w3.heap.size+1,1,none⟩ (.int .i64 0)))=w4 at *;have hb:=HTW.out.bel;replace HOA:=Qh (HOA.out.keep last_fdNodT hb);replace HOB:=Qh (HOB.out.keep last_fdNodT hb);replace HD:=Qh (last_fdDbN _ _ _ _ _ HD.out hb);replace HW:=Qh (HW.out.keep hb);replace HB:=Qh (bstep HB.out hb lrf);have HK:=Qh HTW.out.pl;have HDB:=Qh HTW.out.db;have hk7:=lt_of_at HTW.out.db;have hs4:=hb.size;have HKS:=Qh hs3;generalize w3.heap.size=k7 at *;clear HTW b7 p0 p1 f0 f1 hb;obtain⟨q0,q1,-,-⟩:=HK.out.two;go_wp2_with fail;with_reducible refine(cP _).mono ?_
 rintro e w5 ⟨rfl,hb⟩;replace HOA:=Qh (HOA.out.keep last_fdNodT hb);replace HOB:=Qh (HOB.out.keep last_fdNodT hb);replace HD:=Qh (last_fdDbN _ _ _ _ _ HD.out hb);replace HB:=Qh (bstep HB.out hb lrf);replace HK:=Qh (HK.out.keep hb lrf);replace HDB:=Qh (kind_at HDB.out hb);have hs5:=hb.size;clear hb q0 q1;go_wp2_with fail;with_reducible refine(cP _).mono ?_
 rintro e w6 ⟨rfl,hb⟩;replace HOA:=Qh (HOA.out.keep last_fdNodT hb);replace HOB:=Qh (HOB.out.keep last_fdNodT hb);replace HD:=Qh (last_fdDbN _ _ _ _ _ HD.out hb);replace HB:=Qh (bstep HB.out hb lrf);replace HK:=Qh (HK.out.keep hb lrf);replace HDB:=Qh (kind_at HDB.out hb);have hs6:=hb.size;clear hb;obtain⟨q0,q1,-,-⟩:=HK.out.two;go_upto_region 8 with fail
 clear q0 q1 HK HW cP;have hu:=underlying37;have b7:Blk w6 k7 D:=⟨_,HDB.out⟩
 go_wp2_with (refine wpList_loadS b7 37 (.tmp 7) hu hSZ ?_)
 with_reducible refine(cI _ _ _ _ (sl_nodes HOA.out HFA.out) (db_rd HD.out)).mono ?_
 rintro e w7 ⟨rfl,hb⟩;replace HOA:=Qh (HOA.out.keep last_fdNodT hb);replace HOB:=Qh (HOB.out.keep last_fdNodT hb);replace HD:=Qh (last_fdDbN _ _ _ _ _ HD.out hb);replace HB:=Qh (bstep HB.out hb lrf);replace HDB:=Qh (kind_at HDB.out hb);have hs7:=hb.size;clear hb b7;have b7:Blk w7 k7 D:=⟨_,HDB.out⟩
 go_wp2_with (refine wpList_loadG b7 37 (.tmp 7) hu hSZ ?_)
 with_reducible refine(cI _ _ _ _ (sl_nodes HOB.out HFB.out) (db_rd HD.out)).mono ?_
 rintro e w8 ⟨rfl,hb⟩;replace HOA:=Qh (HOA.out.keep last_fdNodT hb);replace HOB:=Qh (HOB.out.keep last_fdNodT hb);replace HD:=Qh (last_fdDbN _ _ _ _ _ HD.out hb);replace HB:=Qh (bstep HB.out hb lrf);replace HDB:=Qh (kind_at HDB.out hb);have hs8:=hb.size;clear hb b7;have HB8:=HB;have hsz8:w.heap.size≤w8.heap.size:=HB.out.size;have hbd2:(N+2)*16≤140737488355328:=(by omega);go_upto_region 10 with fail
 go_upto_region 11 with (at_builtin;go_loud (refine wpList_append_two last_fdNodT nodes_tyP TA (by rw[HNE.out,← HFA.out,List.length_map]) HOA.out hsz8 hbd2 (by rfl) (by simp[Value.oneCell']) (apt_fdNodT (by decide) (by decide) (by decide)) ?_))
 intro a' c' w9 hoa hg hb;obtain⟨rowsA,hra,-⟩:=HOA.out.rows;replace HOB:=Qh (HOB.out.other HOA.out hg HAB.out last_fdNodT (apt_fdNodT (by decide) (by decide) (by decide)));replace HD:=Qh (rd_grown hra hg (last_fdDbN _) (apt_fdDbN _ (by decide) (by decide) (by decide) (by decide) (by decide)) HD.out);replace HDB:=Qh (heap_grown2 HDB.out hra (by decide) hg);replace HOA:=Qh hoa;replace HB:=Qh (HB.out.trans hb);have hs9:=hb.size;clear hb hg hra hoa rowsA hbd2;have b7:Blk w9 k7 D:=⟨_,HDB.out⟩
 have hnn:((N:Int)+2 != (N:Int)+2)=false:=(by simp);go_wp2_with (refine wpList_loadG b7 37 (.tmp 7) hu hSZ ?_)
 with_reducible refine(cI _ _ _ _ (sl_nodes HOB.out HFB.out) (db_rd HD.out)).mono ?_
 rintro e w10 ⟨rfl,hb⟩;replace HOA:=Qh (HOA.out.keep last_fdNodT hb);replace HOB:=Qh (HOB.out.keep last_fdNodT hb);replace HB:=Qh (bstep HB.out hb lrf);have hs10:=hb.size;clear hb b7 hnn cI HD HDB hSZ hq1 hqD;have HBK:=Qh (book0 w10);have hb:=(Below.refl w10.heap.size w10).alloc lrf (.cells #[.slice none 0 0,.slice none 0 0,.slice none 0 0,.slice none 0 0,.slice none 0 0,.slice none 0 0,.slice none 0 0,.slice none 0 0,.slice none 0 0,.slice none 0 0,.slice none 0 0,.slice none 0 0,.slice none 0 0,.slice none 0 0,.slice none 0 0] 60);have HGA:=Qh fun k hk=>(HOA.out.lt k hk).2
 have HGB:=Qh fun k hk=>(HOB.out.lt k hk).2
 replace HOA:=Qh (HOA.out.keep last_fdNodT hb);replace HOB:=Qh (HOB.out.keep last_fdNodT hb);replace HB:=Qh (bstep HB.out hb lrf);have hs11:=hb.size;clear hb;go_upto_region 14 with fail
 generalize w10.alloc (.cells #[.slice none 0 0,.slice none 0 0,.slice none 0 0,.slice none 0 0,.slice none 0 0,.slice none 0 0,.slice none 0 0,.slice none 0 0,.slice none 0 0,.slice none 0 0,.slice none 0 0,.slice none 0 0,.slice none 0 0,.slice none 0 0,.slice none 0 0] 60)=w11 at *;have hk11:=HBK.out.lt;have hks:=HKS.out;have hw1k:w1.heap.size≤w10.heap.size:=(by omega);have hw2k:w2.heap.size≤w10.heap.size:=(by omega);have h0k:0 < w10.heap.size:=(by omega);obtain⟨LA,TXA,RWA,SGA,ga,PA,hlA,eaa,hga,hgo,hcA⟩:=file_parts HOA.out HFA.out HNE.out HCA.out hw1k hk11 h0k HN.out.2.2.2;have hgk:=HGA.out ga hgo;subst eaa;obtain⟨LB,TXB,RWB,SGB,gb,PB,hlB,ebb,hgb,hgob,hcB⟩:=file_parts HOB.out HFB.out HNE.out HCB.out hw2k hk11 h0k HN.out.2.2.2;have hgkb:=HGB.out gb hgob;subst ebb;obtain⟨m1,m2,m3,-⟩:=HN.out;have xA:=PA.txn;have yA:=PA.rwn;have zA:=PA.sgn;have xB:=PB.txn;have yB:=PB.rwn;have zB:=PB.sgn;have cA:=noted_any LA (by omega) w11 w10.heap.size PA.ok ga 0 ca hga (by omega) hcA [] [] [] (by rw[List.nil_append,PA.tx,List.length_map];omega) (by rw[List.nil_append,PA.rw,List.length_map];omega) (by rw[List.nil_append,PA.sg,List.length_map];omega) (some ⟨ga,0,none⟩) (fun _=>rfl) w11 HBK.out;rw[List.nil_append,List.nil_append,List.nil_append,PA.tx,PA.rw,PA.sg,hlA]at cA;have cB:=fun W hW=>noted_any LB (by omega) w11 w10.heap.size PB.ok gb 0 cb hgb (by omega) hcB (TXA.map (·.1.1)) (RWA.map (·.1.1)) (SGA.map (·.1.1)) (by rw[PB.tx,List.length_append,List.length_map,List.length_map];omega) (by rw[PB.rw,List.length_append,List.length_map,List.length_map];omega) (by rw[PB.sg,List.length_append,List.length_map,List.length_map];omega) (some ⟨gb,0,none⟩) (fun _=>rfl) W hW
 rw[PB.tx,PB.rw,PB.sg,hlB]at cB;simp only[← List.map_append]at cB;have ltx:=fun W (hW:Only w10.heap.size w11 W)=>Lots.of (base:=w.heap.size) (PA.txc.app PB.txc) hw2k (forall_app PA.txo PB.txo) hW lrf
 have lrw:=fun W (hW:Only w10.heap.size w11 W)=>Lots.of (base:=w.heap.size) (PA.rwc.app PB.rwc) hw2k (forall_app PA.rwo PB.rwo) hW lrf
 have lsg:=fun W (hW:Only w10.heap.size w11 W)=>Lots.of (base:=w.heap.size) (PA.sgc.app PB.sgc) hw2k (forall_app PA.sgo PB.sgo) hW lrf
 have hbw:w.heap.size≤w11.heap.size:=(by omega);have cE:=fun W (hW:BookAt w11 W w10.heap.size ((TXA++TXB).map (·.1.1)) ((RWA++RWB).map (·.1.1)) ((SGA++SGB).map (·.1.1)))=>bapart_any w11 w10.heap.size w.heap.size hbw (TXA++TXB) (RWA++RWB) (SGA++SGB) (by rw[List.length_append];omega) (by rw[List.length_append];omega) (by rw[List.length_append];omega)
  (fun j hj=>xsOf_le (forall_app PA.txb PB.txb) j hj) (fun j hj=>xsOf_le (forall_app PA.rwb PB.rwb) j hj) (fun j hj=>xsOf_le (forall_app PA.sgb PB.sgb) j hj) W hW (ltx W hW.only) (lrw W hW.only) (lsg W hW.only)
 have hwk:w.heap.size≤w10.heap.size:=(by omega);clear PA PB xA xB yA yB zA zB m1 m2 m3 hcA hcB hgo hgob ltx lrw lsg HCA HCB HOA HOB HFA HFB HNE HN HGA HGB;have HCA2:=Qh cA;have HCB2:=Qh cB;have HCE:=Qh cE;clear cA cB cE;go_wp2_with fail;(with_reducible refine HCA2.out.mono ?_);rintro e w12 ⟨rfl,hB⟩;have HBB:=Qh hB;clear hB;go_wp2_with fail;with_reducible refine(HCB2.out _ HBB.out).mono ?_
 rintro e w13 ⟨rfl,hB⟩;replace HBB:=Qh hB;clear hB;go_wp2_with fail;with_reducible refine(HCE.out _ HBB.out).mono ?_
 rintro e w14 ⟨rfl,hb⟩;have HBF:=Qh ((Only.below HB.out HBB.out.only lrf hwk).trans hb);clear hb;go_wp2_with fail;go_ret;exact⟨rfl,HBF.out⟩
theorem parsefiles_any (s:List UInt8) (hs:s.length≤9223372036854775807) (w:World) (hW:FileW w) :
  Calls prog 3 #[.string ⟨s.toArray⟩] w fun e w'=>e=.returned (.bool true)∧Below w.heap.size w w':=by
 rcases file_cases s with ⟨v,no,L,C,he,hf,hr⟩|⟨d,hd,hf,hr⟩
 ·refine parsefiles_bad s v no L C he (fun w hW=>(file_any s hs w hW).mono fun e w' h=>?_) (fun w=>(ref6_any s hs w).mono fun e w' h=>hr _ _ _ h) w hW;rw[hf]at h;exact h
 ·refine parsefiles_good s d hd (fun w hW=>(file_any s hs w hW).mono fun e w' h=>?_) (fun w=>(ref6_any s hs w).mono fun e w' h=>hr _ _ _ h) w hW;rw[hf]at h;exact h
theorem parsefiles_str (s:ByteArray) (hs:s.size≤9223372036854775807) (w:World) (hW:FileW w) :
  Calls prog 3 #[.string s] w fun e w'=>e=.returned (.bool true)∧Below w.heap.size w w':=by
 have e:(⟨s.data.toList.toArray⟩:ByteArray)=s:=(by cases s;simp);have h:=parsefiles_any s.data.toList (by rw[Array.length_toList];exact hs) w hW;rw[e]at h;exact h
end Go.Proofs.YtlacjhjckkablaaGreatDoor
