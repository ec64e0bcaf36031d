/-
  A database without its places: the law's own function.
-/
import Derived.Test.YtjgjckipfkkgiaaGreatDoorBaseD
import Derived.Test.YtjgjckipfkkgiaaGreatDoorNodD
import Derived.Test.YtjgjckipfkkgiaaGreatDoorGat6
set_option maxHeartbeats 128000000
set_option linter.unusedVariables false
namespace Go.Proofs.YtjgjckipfkkgiaaGreatDoor
open Go.Proofs.Tryz
open Go.RowKit
theorem ne_kind {w:World} {k g:Nat} {C D:Array Value} {T U:TypeId} (h:w.heap[k]? = some (.cells C T)) (h':w.heap[g]? = some (.cells D U)) (hT:T≠U):k≠g:=by
 rintro rfl;rw[h]at h';cases h'
 exact hT rfl
structure BarAt (B k3:Nat) (d:DbD) (u v z:Value) (w:World):Prop where
 b3:w.heap[k3]? = some (.cells (d.cells u v z) 32)
 b2:w.heap[B+1]? = some (.cells zeroDb 32)
 nn:Owns w B 9 1 enTx u d.sta.names
 mm:OwnRd w B 48 (fdMsgN B) 8 v d.msgs
 tt:OwnRd w B 64 (fdTabN B) 6 z d.tabs
 lt:B+1 < k3
theorem OwnRd.bound {α:Type} {rd:World→α→List Value→Prop} {w:World} {base:Nat} {T:TypeId} {n:Nat} {v:Value} {xs:List α} (h:OwnRd w base T rd n v xs):xs.length≤9223372036854775807:=by
 obtain⟨rows,h1,h2⟩:=h;have:=h2.len;by_cases h0:0 < rows.length
 ·obtain⟨g,cap,-,-,-,hle,hm⟩:=h1.block h0;omega
 ·omega
theorem BarAt.box {B k3:Nat} {d:DbD} {u v z:Value} {w:World} (h:BarAt B k3 d u v z w) (d':DbD) (j:Nat) (y:Value) (he:(d.cells u v z).setIfInBounds j y=d'.cells u v z) (h1:d'.sta.names=d.sta.names) (h2:d'.msgs=d.msgs) (h3:d'.tabs=d.tabs) :
  BarAt B k3 d' u v z (w.setCell ⟨k3,j,none⟩ y):=
 ⟨by rw[← he];exact setCell_at h.b3 j y,setCell_ne h.b2 (by have:=h.lt;omega) j y,
  by rw[h1];exact h.nn.setAt h.b3 (by decide) j y,by rw[h2];exact h.mm.setAt h.b3 (by decide) (apt_fdMsgN B (by decide) (by decide)) j y,by rw[h3];exact h.tt.setAt h.b3 (by decide) (apt_fdTabN B (by decide)) j y,h.lt⟩
theorem BarAt.msg {B k3:Nat} {d:DbD} {u z:Value} {w:World} {b m cap:Nat} {D:Array Value} (h:BarAt B k3 d u (.slice (some ⟨b,0,none⟩) m cap) z w) (hb:w.heap[b]? = some (.cells D 48)) {i:Nat} (hi:i < d.msgs.length) :
  BarAt B k3 { d with msgs:=d.msgs.set i { d.msgs[i]with line:=0,col:=0 } } u (.slice (some ⟨b,0,none⟩) m cap) z ((w.setCell ⟨b,i*8,none⟩ (.int .i64 0)).setCell ⟨b,i*8+1,none⟩ (.int .i64 0)):=by
 have hb2:=setCell_at hb (i*8+0) (.int .i64 0);refine⟨setCell_ne (setCell_ne h.b3 (ne_kind h.b3 hb (by decide)) _ _) (ne_kind h.b3 hb (by decide)) _ _,setCell_ne (setCell_ne h.b2 (ne_kind h.b2 hb (by decide)) _ _) (ne_kind h.b2 hb (by decide)) _ _,
  (h.nn.setAt hb (by decide) _ _).setAt hb2 (by decide) _ _,h.mm.place (apt_fdMsgN B (by decide) (by decide)) (by decide) hi _ fun w' cs hr=>msg_placed hr,(h.tt.setAt hb (by decide) (apt_fdTabN B (by decide)) _ _).setAt hb2 (by decide) (apt_fdTabN B (by decide)) _ _,h.lt⟩
theorem BarAt.tab {B k3:Nat} {d:DbD} {u v:Value} {w:World} {b m cap:Nat} {D:Array Value} (h:BarAt B k3 d u v (.slice (some ⟨b,0,none⟩) m cap) w) (hb:w.heap[b]? = some (.cells D 64)) {i:Nat} (hi:i < d.tabs.length) :
  BarAt B k3 { d with tabs:=d.tabs.set i { d.tabs[i]with line:=0,col:=0 } } u v (.slice (some ⟨b,0,none⟩) m cap) ((w.setCell ⟨b,i*6,none⟩ (.int .i64 0)).setCell ⟨b,i*6+1,none⟩ (.int .i64 0)):=by
 have hb2:=setCell_at hb (i*6+0) (.int .i64 0);refine⟨setCell_ne (setCell_ne h.b3 (ne_kind h.b3 hb (by decide)) _ _) (ne_kind h.b3 hb (by decide)) _ _,setCell_ne (setCell_ne h.b2 (ne_kind h.b2 hb (by decide)) _ _) (ne_kind h.b2 hb (by decide)) _ _,
  (h.nn.setAt hb (by decide) _ _).setAt hb2 (by decide) _ _,(h.mm.setAt hb (by decide) (apt_fdMsgN B (by decide) (by decide)) _ _).setAt hb2 (by decide) (apt_fdMsgN B (by decide) (by decide)) _ _,h.tt.place (apt_fdTabN B (by decide)) (by decide) hi _ fun w' cs hr=>tab_placed hr,h.lt⟩
theorem BarAt.sig {B k3:Nat} {d:DbD} {u v vs z:Value} {w:World} {g:Nat} {D:Array Value} (h:BarAt B k3 d u v z w) (hg:w.heap[g]? = some (.cells D 61)) {i k:Nat} (hi:i < d.msgs.length)
  (hv:∃ b cap,v=.slice (some ⟨b,0,none⟩) d.msgs.length cap∧w.rangeAt b (i*8) (d.msgs[i].cells vs).toList) (hb:vs.ownBlock=some g) :
  ∃ ms':List MsgD,BarAt B k3 { d with msgs:=ms' } u v z ((w.setCell ⟨g,k*19,none⟩ (.int .i64 0)).setCell ⟨g,k*19+1,none⟩ (.int .i64 0))∧ms'.length=d.msgs.length∧ms'.map zMsg=d.msgs.map zMsg ∧
   (∀ j (h1:j < d.msgs.length) (h2:j < ms'.length),zMsg d.msgs[j]=d.msgs[j]→ms'[j]=d.msgs[j])∧(∀ h2:i < ms'.length,ms'[i].sigs=d.msgs[i].sigs.modify k zSig∧ms'[i].line=d.msgs[i].line∧ms'[i].col=d.msgs[i].col):=by
 obtain⟨ms',o1,o2⟩:=h.mm.struck (k:=k) hg hi hv hb;have hg2:=setCell_at hg (k*19+0) (.int .i64 0);refine⟨ms',⟨setCell_ne (setCell_ne h.b3 (ne_kind h.b3 hg (by decide)) _ _) (ne_kind h.b3 hg (by decide)) _ _,setCell_ne (setCell_ne h.b2 (ne_kind h.b2 hg (by decide)) _ _) (ne_kind h.b2 hg (by decide)) _ _,
  (h.nn.setAt hg (by decide) _ _).setAt hg2 (by decide) _ _,o1,(h.tt.setAt hg (by decide) (apt_fdTabN B (by decide)) _ _).setAt hg2 (by decide) (apt_fdTabN B (by decide)) _ _,h.lt⟩,o2⟩
theorem BarAt.cell {B k3:Nat} {d:DbD} {u v z:Value} {w:World} (h:BarAt B k3 d u v z w) (j:Nat) (y:Value) (hy:(d.cells u v z)[j]? = some y):w.cell? ⟨k3,j,none⟩=some y∧w.frozen? ⟨k3,j,none⟩=false:=by
 have:Blk w k3 (d.cells u v z):=⟨_,h.b3⟩
 exact⟨this.cell j y hy,this.free j⟩
def MsT (x:DbD) (k:Nat) (ms:List MsgD):Prop:=ms.length=x.msgs.length∧ms.map zMsg=x.msgs.map zMsg∧∀ r (h:r < ms.length),r < k→zMsg ms[r]=ms[r]
def MsI (k ns q:Nat) (ms:List MsgD):Prop:=∀ h:k < ms.length,ms[k].line=0∧ms[k].col=0∧ms[k].sigs.length=ns∧∀ t (ht:t < ms[k].sigs.length),t < q→zSig ms[k].sigs[t]=ms[k].sigs[t]
theorem MsT.start (x:DbD):MsT x 0 x.msgs:=⟨rfl,rfl,fun r h h0=>by omega⟩
theorem MsT.place {x:DbD} {k:Nat} {ms:List MsgD} (h:MsT x k ms) (hk:k < ms.length):MsT x k (ms.set k { ms[k]with line:=0,col:=0 }):=by
 obtain⟨h1,h2,h3⟩:=h;refine⟨by rw[List.length_set];exact h1,?_,fun r hr hlt=>?_⟩
 ·rw[← h2];refine List.ext_getElem (by simp) fun j k1 k2=>?_
  simp only[List.length_map,List.length_set]at k1 k2;simp only[List.getElem_map,List.getElem_set];split
  ·rename_i e
   subst e;rfl
  ·rfl
 ·rw[List.length_set]at hr;simp only[List.getElem_set_ne (show k≠r by omega)];exact h3 r hr hlt
theorem MsI.start {k:Nat} {ms:List MsgD} (hk:k < ms.length):MsI k ms[k].sigs.length 0 (ms.set k { ms[k]with line:=0,col:=0 }):=by
 intro h;simp only[List.getElem_set_self];exact⟨trivial,trivial,trivial,fun t ht h0=>by omega⟩
theorem MsT.struck {x:DbD} {k:Nat} {ms ms':List MsgD} (h:MsT x k ms) (h1:ms'.length=ms.length) (h2:ms'.map zMsg=ms.map zMsg) (h3:∀ j (k1:j < ms.length) (k2:j < ms'.length),zMsg ms[j]=ms[j]→ms'[j]=ms[j]):MsT x k ms':=by
 refine⟨h1.trans h.1,h2.trans h.2.1,fun r hr hlt=>?_⟩;have hf:=h.2.2 r (by omega) hlt;rw[h3 r (by omega) hr hf];exact hf
theorem MsI.next {k ns q:Nat} {ms ms':List MsgD} (h:MsI k ns q ms) (hk:k < ms.length) (h3:∀ h2:k < ms'.length,ms'[k].sigs=ms[k].sigs.modify q zSig∧ms'[k].line=ms[k].line∧ms'[k].col=ms[k].col):MsI k ns (q+1) ms':=by
 intro hk';obtain⟨e1,e2,e3⟩:=h3 hk';obtain⟨a1,a2,a3,a4⟩:=h hk;refine⟨by rw[e2];exact a1,by rw[e3];exact a2,by rw[e1,List.length_modify];exact a3,?_⟩;rw[e1];intro t ht hlt;rw[List.length_modify]at ht;simp only[List.getElem_modify];split
 ·rfl
 ·exact a4 t ht (by omega)
theorem MsT.next {x:DbD} {k ns:Nat} {ms:List MsgD} (h:MsT x k ms) (hi:MsI k ns ns ms):MsT x (k+1) ms:=by
 refine⟨h.1,h.2.1,fun r hr hlt=>?_⟩;by_cases e:r=k
 ·subst e;obtain⟨a1,a2,a3,a4⟩:=hi hr;have hs:ms[r].sigs.map zSig=ms[r].sigs:=by
   refine List.ext_getElem (by simp) fun j k1 k2=>?_
   simp only[List.getElem_map];exact a4 j k2 (by omega)
  unfold zMsg;rw[hs,← a1];generalize ms[r]=m at *;obtain⟨⟩:=m;simp only at a1 a2;subst a1 a2;rfl
 ·exact h.2.2 r hr (by omega)
theorem MsT.done {x:DbD} {ms:List MsgD} (h:MsT x x.msgs.length ms):ms=x.msgs.map zMsg:=by
 rw[← h.2.1];refine List.ext_getElem (by simp) fun j k1 k2=>?_
 simp only[List.getElem_map];exact(h.2.2 j k1 (by have:=h.1;omega)).symm
def TabT (x:DbD) (k:Nat) (ts:List TabD):Prop:=ts.length=x.tabs.length∧∀ r (h1:r < ts.length) (h2:r < x.tabs.length),ts[r]=if r < k then zTab x.tabs[r] else x.tabs[r]
theorem TabT.start (x:DbD):TabT x 0 x.tabs:=⟨rfl,fun r h1 h2=>by rw[if_neg (Nat.not_lt_zero _)]⟩
theorem TabT.next {x:DbD} {k:Nat} {ts:List TabD} (h:TabT x k ts) (hk:k < ts.length):TabT x (k+1) (ts.set k { ts[k]with line:=0,col:=0 }):=by
 refine⟨by rw[List.length_set];exact h.1,fun r h1 h2=>?_⟩;rw[List.length_set]at h1;have hr:=h.2 r h1 h2;by_cases e:k=r
 ·subst e;rw[List.getElem_set_self,if_pos (by omega),hr,if_neg (by omega)];rfl
 ·rw[List.getElem_set_ne e,hr];by_cases hlt:r < k
  ·rw[if_pos hlt,if_pos (by omega)]
  ·rw[if_neg hlt,if_neg (by omega)]
theorem TabT.done {x:DbD} {ts:List TabD} (h:TabT x x.tabs.length ts):ts=x.tabs.map zTab:=by
 refine List.ext_getElem (by rw[List.length_map];exact h.1) fun j k1 k2=>?_
 rw[List.length_map]at k2;rw[List.getElem_map,h.2 j k1 k2,if_pos k2]
set_option maxRecDepth 100000 in theorem bare_any (x : DbD) (hf : DbFit x) (hv : VerOK x) (w : World) (cs : Array Value) (hx : rdDb w x cs.toList) :
  Calls prog 12 #[.agg cs] w fun e w'=>∃ C:Array Value,e=.returned (.agg C)∧fdDbN w.heap.size w' (bareD x) C.toList∧Below w.heap.size w w':=by
 obtain⟨c1,c2,e0⟩:∃ (h1:cs.size=9) (h2:cs.all (·.oneCell')=true),True:=by
  obtain⟨a,cap,b,cb,c,cc,ecs,-⟩:=hx;rw[Array.toList_inj.1 ecs];exact⟨rfl,DbD.cells_one _ _ _ _ _ _ _ _ _ _,trivial⟩
 obtain⟨zb,zz,hz2,hbz⟩:=box2 w cs zeroDb 32 32;have hu:=underlying32;have C0:=Qh (copyDb_anyN x hf _ cs (last_rdDb _ _ _ _ hx hbz) w.heap.size hbz.size);have HBZ:=Qh hbz;have K2:=Qh (show((w.alloc (.cells cs 32)).alloc (.cells zeroDb 32)).heap[w.heap.size+1]? = some (.cells zeroDb 32)by simpa using heap_alloc_new (w.alloc (.cells cs 32)) (.cells zeroDb 32));clear hx;go_enter func12,ntmps12
 go_wp2_with (refine wpList_loadS zb 32 (.tmp 1) hu (by rw[c1];exact db_size) ?_)
 (with_reducible refine C0.out.mono ?_);rintro e w1 ⟨C,rfl,hfd,hb⟩;have hb1:=bstep HBZ.out hb lrf;have k2:=Blk.kindAt K2.out hb;obtain⟨u,v,z,eC,h1,h2,h3⟩:=hfd;obtain rfl:C=x.cells u v z:=Array.toList_inj.1 eC;clear eC;have q0:=DbD.cells_size x u v z;have q1:(x.cells u v z).all (·.oneCell')=true:=by
  obtain⟨a4,c4,rfl,-⟩:=h1.shape;obtain⟨a5,c5,rfl,-⟩:=h2.shape;obtain⟨a6,c6,rfl,-⟩:=h3.shape;exact DbD.cells_one _ _ _ _ _ _ _ _ _ _
 have hz1:w.heap.size+2≤w1.heap.size:=Nat.le_trans (by simp) hb.size;have A0:Hid (∀ o:Unit,BarAt w.heap.size w1.heap.size x u v z (w1.alloc (.cells (x.cells u v z) 32))):=Qh fun _=>by
  have b1:Below w1.heap.size w1 (w1.alloc (.cells (x.cells u v z) 32)):=(Below.refl _ _).alloc lrf _;exact⟨heap_alloc_new w1 _,Blk.kindAt k2 b1,h1.keep b1 lrf,h2.keep (last_fdMsgN _) b1,h3.keep (last_fdTabN _) b1,by omega⟩
 have HB1:=Qh hb1;have HZ1:=Qh hz1;clear h1 h2 h3 k2 hb hb1 hz1 zb zz hz2 hbz;go_upto_region 2 with (refine wpList_newS (Z:=zeroDb) (cs:=x.cells u v z) 32 (.tmp 3) (.tmp 8) (by rw[q0];exact db_zero) (by rw[q0];rfl) q1 ?_)
 have a0:=A0.out ();have hb0:Below w.heap.size w (w1.alloc (.cells (x.cells u v z) 32)):=HB1.out.alloc (by have:=HZ1.out;omega) _;have hk3:w.heap.size≤w1.heap.size:=(by have:=HZ1.out;omega);have HB0:=Qh hb0;clear A0 HB1 HZ1 HBZ C0 K2 hb0 q0 q1;generalize w1.heap.size=k3 at *;generalize w1.alloc (.cells (x.cells u v z) 32)=W1 at *;obtain⟨V,hV⟩:∃ V:VerD,V = { x.ver with line:=0,col:=0 }:=⟨_,rfl⟩
 have f1:=a0.cell 1 (.int .i64 x.ver.line) rfl;have f2:=a0.cell 2 (.int .i64 x.ver.col) rfl;have a1:=(a0.box { x with ver:={ x.ver with line:=0 } } 1 (.int .i64 0) rfl rfl rfl rfl).box { x with ver:=V } 2 (.int .i64 0) (by rw[hV];rfl) rfl rfl rfl;have hb1:=below_set (below_set HB0.out hk3 1 (.int .i64 0)) hk3 2 (.int .i64 0);have f4:=a0.cell 4 (.int .i64 x.sta.line) rfl;have f5:=a0.cell 5 (.int .i64 x.sta.col) rfl;have A4:=Qh ((a1.box { x with ver:=V,sta:={ x.sta with line:=0 } } 4 (.int .i64 0) rfl rfl rfl rfl).box { x with ver:=V,sta:={ x.sta with line:=0,col:=0 } } 5 (.int .i64 0) rfl rfl rfl rfl);have HB4:=Qh (below_set (below_set hb1 hk3 4 (.int .i64 0)) hk3 5 (.int .i64 0));have HV:=Qh hV;clear a0 a1 hb1 HB0 hV;go_upto_region 4 with fail
 have a4:=A4.out;have hb4:=HB4.out;clear A4 HB4 f1 f2 f4 f5 c1 c2 e0;generalize (((W1.setCell ⟨k3,1,none⟩ (.int .i64 0)).setCell ⟨k3,2,none⟩ (.int .i64 0)).setCell ⟨k3,4,none⟩ (.int .i64 0)).setCell ⟨k3,5,none⟩ (.int .i64 0)=W6 at *;obtain⟨va,vc,rfl,-⟩:=a4.mm.shape;obtain⟨ta,tc,rfl,-⟩:=a4.tt.shape;have st0:=MsT.start x;have A6:=Qh a4;clear a4;go_wp2_with fail;go_loopw [4,5] (fun i j wr=>∃ (k:Nat) (ms:List MsgD),k≤x.msgs.length∧i=.int .i64 k∧MsT x k ms∧BarAt w.heap.size k3 ⟨x.has,V,{ x.sta with line:=0,col:=0 },ms,x.tabs⟩ u (.slice va x.msgs.length vc) (.slice ta x.tabs.length tc) wr∧Below w.heap.size w wr) (fun i _ _=>x.msgs.length - (intOf i).toNat)
 case atStart=>exact⟨0,x.msgs,Nat.zero_le _,rfl,st0,A6.out,hb4⟩
 case round=>
  obtain⟨k,ms,hk,rfl,hms,ha,hbel⟩:=hrel;have f7:wr.cell? ⟨k3,7,none⟩=some (.slice va x.msgs.length vc):=(ha.cell 7 _ rfl).1;by_cases hlt:k < x.msgs.length
  ·have hk2:k < ms.length:=(by have:=hms.1;omega);have hkb:k+1≤4000000:=(by have:=hf.mm;omega);obtain⟨b,cap,hv,hbB,hbl,⟨D,hD⟩,cs',hcl,hfd,hrg⟩:=ha.mm.at0 (by decide) hk2;simp only[Value.slice.injEq]at hv;obtain⟨rfl,-,-⟩:=hv;obtain⟨vs,rfl,-⟩:=hfd;have g0:wr.cell? ⟨b,k*8,none⟩=some (.int .i64 ms[k].line):=(by simpa using hrg 0 (.int .i64 ms[k].line) rfl);have g1:=hrg 1 (.int .i64 ms[k].col) rfl;have r0:wr.frozen? ⟨b,k*8,none⟩=false:=Blk.free ⟨_,hD⟩ _;have r1:wr.frozen? ⟨b,k*8+1,none⟩=false:=Blk.free ⟨_,hD⟩ _;have A7:=Qh (show BarAt w.heap.size k3 ⟨x.has,V,{ x.sta with line:=0,col:=0 },ms.set k { ms[k]with line:=0,col:=0 },x.tabs⟩ u (.slice (some ⟨b,0,none⟩) x.msgs.length vc) (.slice ta x.tabs.length tc) _ from ha.msg hD hk2);have HB7:=Qh (below_set (below_set hbel hbB (k*8) (.int .i64 0)) hbB (k*8+1) (.int .i64 0));have HM:=Qh (hms.place hk2);have HI:=Qh (MsI.start hk2);clear ha hbel hrg hD hcl hms;go_upto_region 8 with fail
   have a7:=A7.out;have hb7:=HB7.out;have hm7:=HM.out;have hi7:=HI.out;clear A7 HB7 HM HI g0 g1 r0 r1 f7;generalize (wr.setCell ⟨b,k*8,none⟩ (.int .i64 0)).setCell ⟨b,k*8+1,none⟩ (.int .i64 0)=wx at *;generalize ms[k].sigs.length=ns at *;generalize ms.set k { ms[k]with line:=0,col:=0 } = ms2 at *;have HA7:=Qh a7;clear a7;go_wp2_with fail;go_loopw [5] (fun j ww=>∃ (q:Nat) (m3:List MsgD),q≤ns∧j=.int .i64 q∧MsT x k m3∧MsI k ns q m3∧BarAt w.heap.size k3 ⟨x.has,V,{ x.sta with line:=0,col:=0 },m3,x.tabs⟩ u (.slice (some ⟨b,0,none⟩) x.msgs.length vc) (.slice ta x.tabs.length tc) ww∧Below w.heap.size w ww) (fun j _=>ns - (intOf j).toNat)
   case atStart=>exact⟨0,ms2,Nat.zero_le _,rfl,hm7,hi7,HA7.out,hb7⟩
   case round=>
    obtain⟨q,m3,hq,rfl,hm3,hi3,ha,hbel⟩:=hrel;obtain⟨ww,hww⟩:∃ y,y=wr:=⟨_,rfl⟩
    subst hww;have hk3':k < m3.length:=(by have:=hm3.1;omega);have f7:ww.cell? ⟨k3,7,none⟩=some (.slice (some ⟨b,0,none⟩) x.msgs.length vc):=(ha.cell 7 _ rfl).1;obtain⟨b',cap',hv,-,-,-,cs',hcl,hfd,hrg⟩:=ha.mm.at0 (by decide) hk3';have hve:=hv;simp only[Value.slice.injEq,Option.some.injEq,Addr.mk.injEq,and_true]at hv;obtain⟨rfl,-,-⟩:=hv;obtain⟨vs,rfl,hos⟩:=hfd;obtain⟨sa,sc,hvs,-⟩:=hos.shape;rw[(hi3 hk3').2.2.1]at hvs;have g6:=hrg 7 vs rfl;have HRG:=Qh hrg;have HVE:=Qh hve;clear hrg hve hcl;by_cases hlq:q < ns
    ·have hq':q < m3[k].sigs.length:=(by rw[(hi3 hk3').2.2.1];exact hlq);have hqb:q+1≤9223372036854775807:=Nat.le_trans (Nat.succ_le_of_lt hq') hos.bound;obtain⟨g,gc,hv2,hgB,hgl,⟨G,hG⟩,ss,hsl,hfs,hsr⟩:=hos.at0 (by decide) hq';rw[(hi3 hk3').2.2.1]at hv2;obtain⟨vr,rfl,-⟩:=hfs;subst hv2;have g0:ww.cell? ⟨g,q*19,none⟩=some (.int .i64 m3[k].sigs[q].d.line):=(by simpa using hsr 0 (.int .i64 m3[k].sigs[q].d.line) rfl);have g1:=hsr 1 (.int .i64 m3[k].sigs[q].d.col) rfl;have r0:ww.frozen? ⟨g,q*19,none⟩=false:=Blk.free ⟨_,hG⟩ _;have r1:ww.frozen? ⟨g,q*19+1,none⟩=false:=Blk.free ⟨_,hG⟩ _;obtain⟨m4,A8,l4,z4,x4,i4⟩:=ha.sig (k:=q) hG (i:=k) hk3' ⟨b,cap',HVE.out,HRG.out⟩ rfl;have HA8:=Qh A8;have HM8:=Qh (hm3.struck l4 z4 x4);have HI8:=Qh (hi3.next hk3' i4);have HB8:=Qh (below_set (below_set hbel hgB (q*19) (.int .i64 0)) hgB (q*19+1) (.int .i64 0));clear A8 l4 z4 x4 i4 ha hbel hG hos hsr hsl hm3 hi3 HRG HVE hvs;go_wp2_with fail;go_roundw;case rel=>exact⟨q+1,m4,by omega,by go_num,HM8.out,HI8.out,HA8.out,HB8.out⟩
     case measure=>simp[intOf];omega
    ·have e:q=ns:=(by omega);subst e;subst hvs;have HA9:=Qh ha;have HB9:=Qh hbel;have HM9:=Qh (hm3.next hi3);clear ha hbel hm3 hi3 HRG HVE hos;go_wp2_with fail;go_roundw;case rel=>exact⟨k+1,m3,by omega,by go_num,HM9.out,HA9.out,HB9.out⟩
     case measure=>simp[intOf];omega
  ·have e:k=x.msgs.length:=(by omega);subst e;obtain rfl:=hms.done;have HAT:=Qh ha;have HBT:=Qh hbel;clear ha hbel hms;have t0:=TabT.start x;have hbt:=HBT.out;obtain⟨w8,hw8⟩:∃ y,y=wr:=⟨_,rfl⟩
   subst hw8;go_wp2_with fail;go_loopw [6] (fun i wr=>∃ (k:Nat) (ts:List TabD),k≤x.tabs.length∧i=.int .i64 k∧TabT x k ts∧BarAt w.heap.size k3 ⟨x.has,V,{ x.sta with line:=0,col:=0 },x.msgs.map zMsg,ts⟩ u (.slice va x.msgs.length vc) (.slice ta x.tabs.length tc) wr∧Below w.heap.size w wr) (fun i _=>x.tabs.length - (intOf i).toNat)
   case atStart=>exact⟨0,x.tabs,Nat.zero_le _,rfl,t0,HAT.out,hbt⟩
   case round=>
    obtain⟨k,ts,hk,rfl,hts,ha,hbel⟩:=hrel;obtain⟨ww,hww⟩:∃ y,y=wr:=⟨_,rfl⟩
    subst hww;have f8:ww.cell? ⟨k3,8,none⟩=some (.slice ta x.tabs.length tc):=(ha.cell 8 _ rfl).1;by_cases hlt:k < x.tabs.length
    ·have hk2:k < ts.length:=(by have:=hts.1;omega);have hkb:k+1≤4000000:=(by have:=hf.tt;omega);obtain⟨b,cap,hv,hbB,hbl,⟨D,hD⟩,cs',hcl,hfd,hrg⟩:=ha.tt.at0 (by decide) hk2;simp only[Value.slice.injEq]at hv;obtain⟨rfl,-,-⟩:=hv;obtain⟨vs,rfl,-⟩:=hfd;have g0:ww.cell? ⟨b,k*6,none⟩=some (.int .i64 ts[k].line):=(by simpa using hrg 0 (.int .i64 ts[k].line) rfl);have g1:=hrg 1 (.int .i64 ts[k].col) rfl;have r0:ww.frozen? ⟨b,k*6,none⟩=false:=Blk.free ⟨_,hD⟩ _;have r1:ww.frozen? ⟨b,k*6+1,none⟩=false:=Blk.free ⟨_,hD⟩ _;have A7:=Qh (show BarAt w.heap.size k3 ⟨x.has,V,{ x.sta with line:=0,col:=0 },x.msgs.map zMsg,ts.set k { ts[k]with line:=0,col:=0 }⟩ u (.slice va x.msgs.length vc) (.slice (some ⟨b,0,none⟩) x.tabs.length tc) _ from ha.tab hD hk2);have HB7:=Qh (below_set (below_set hbel hbB (k*6) (.int .i64 0)) hbB (k*6+1) (.int .i64 0));have HM:=Qh (hts.next hk2);clear ha hbel hrg hD hcl hts;go_wp2_with fail;go_roundw;case rel=>exact⟨k+1,_,by omega,by go_num,HM.out,A7.out,HB7.out⟩
     case measure=>simp[intOf];omega
    ·have e:k=x.tabs.length:=(by omega);subst e;obtain rfl:=hts.done;have hbar:(⟨x.has,V,{ x.sta with line:=0,col:=0 },x.msgs.map zMsg,x.tabs.map zTab⟩:DbD)=bareD x:=by
      unfold bareD;rw[HV.out];cases hh:x.has
      ·rw[hv hh];rfl
      ·rfl
     rw[hbar]at ha;have HA:=Qh ha;have HB:=Qh hbel;have b3:Blk ww k3 _:=⟨_,ha.b3⟩
     have b2:Blk ww (w.heap.size+1) _:=⟨_,ha.b2⟩
     have q0:=DbD.cells_size (bareD x) u (.slice va x.msgs.length vc) (.slice ta x.tabs.length tc);have q1:((bareD x).cells u (.slice va x.msgs.length vc) (.slice ta x.tabs.length tc)).all (·.oneCell')=true:=by
      obtain⟨a4,c4,rfl,-⟩:=ha.nn.shape;exact DbD.cells_one _ _ _ _ _ _ _ _ _ _
     clear ha hbel hts hbar;generalize hE:(bareD x).cells u (.slice va x.msgs.length vc) (.slice ta x.tabs.length tc)=E at *;have HE:=Qh hE;clear hE;go_wp2_with (first|(refine wpList_loadS b3 32 (.tmp 3) hu (by rw[q0];exact db_size) ?_)|(refine wpList_storeS (cs:=E) b2 32 (.tmp 2) (.tmp 62) (by rw[q0];exact db_size) (by rw[q0];rfl) q1 ?_))
     have hrun:=run_loadS (b2.row E) 32 _ hu rfl (by rw[q0];exact db_size);have hb6:=below_row HB.out (show w.heap.size≤w.heap.size+1 by omega) E;refine bodyPost_ret (v:=.agg E) (by simp[results,results12,Act.put,asAddr,hrun]) rfl ⟨E,rfl,?_,hb6⟩;rw[← HE.out];have hh:=HA.out;refine⟨u,.slice va x.msgs.length vc,.slice ta x.tabs.length tc,rfl,?_,?_,?_⟩
     ·exact Owns.apt hh.nn (by decide) hh.b2 (fun b _ hne=>heap_setRow_other _ _ _ _ hne)
     ·exact OwnRd.apt hh.mm (by decide) (apt_fdMsgN _ (by decide) (by decide)) hh.b2 (by simp[World.setRow]) (fun b _ hne=>heap_setRow_other _ _ _ _ hne)
     ·exact OwnRd.apt hh.tt (by decide) (apt_fdTabN _ (by decide)) hh.b2 (by simp[World.setRow]) (fun b _ hne=>heap_setRow_other _ _ _ _ hne)
end Go.Proofs.YtjgjckipfkkgiaaGreatDoor
