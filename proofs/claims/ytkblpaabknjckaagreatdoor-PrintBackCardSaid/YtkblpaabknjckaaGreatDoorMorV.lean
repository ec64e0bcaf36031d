/-
  What the law of one message more holds in memory: the copy in its box.
-/
import Derived.Test.YtkblpaabknjckaaGreatDoorPrnPF
import Derived.Test.YtkblpaabknjckaaGreatDoorAltD
import Derived.Test.YtkblpaabknjckaaGreatDoorSamA
import Derived.Test.YtkblpaabknjckaaGreatDoorPlain
import Derived.Test.YtkblpaabknjckaaGreatDoorBaseD
import Derived.Test.YtkblpaabknjckaaGreatDoorMorP
import Derived.Test.YtkblpaabknjckaaGreatDoorNodD
set_option maxHeartbeats 128000000
set_option linter.unusedVariables false
namespace Go.Proofs.YtkblpaabknjckaaGreatDoor
open Go.RowKit Go.Shelf
def nrmV (d:DbD):DbD:=if d.has then d else { d with ver:=⟨0,0,[]⟩ }
theorem gat_tabs:∀ (l:List TabD) (i last:Nat) (d:DbD),2≤last→last≤4→gatL i last d (l.map NodeD.tab)=.good { d with tabs:=d.tabs++l }
 | [],i,last,d,h,_=>by
  show(if last < 2 then GatR.bad 2 i else GatR.good d)=_;rw[if_neg (by omega),List.append_nil]
 | t::l,i,last,d,h,h4=>by
  show(if gatB i last (.tab t) then GatR.bad 4 i else gatL (i+1) 4 (d.add (.tab t)) (l.map NodeD.tab))=_;have e:gatB i last (.tab t)=false:=by
   unfold gatB;rw[decide_eq_true (show 2≤last from h),decide_eq_false (show ¬ (NodeD.tab t).rank < last by simp only[NodeD.rank];omega)];rfl
  rw[e,gat_tabs l (i+1) 4 _ (by decide) (by decide)];simp[DbD.add]
theorem gat_msgs (r:List TabD):∀ (l:List MsgD) (i last:Nat) (d:DbD),2≤last→last≤3→gatL i last d (l.map NodeD.msg++r.map NodeD.tab)=.good { d with msgs:=d.msgs++l,tabs:=d.tabs++r }
 | [],i,last,d,h,_=>by
  rw[List.map_nil,List.nil_append,gat_tabs r i last d h (by omega),List.append_nil]
 | m::l,i,last,d,h,h3=>by
  show(if gatB i last (.msg m) then GatR.bad 4 i else gatL (i+1) 3 (d.add (.msg m)) (l.map NodeD.msg++r.map NodeD.tab))=_;have e:gatB i last (.msg m)=false:=by
   unfold gatB;rw[decide_eq_true (show 2≤last from h),decide_eq_false (show ¬ (NodeD.msg m).rank < last by simp only[NodeD.rank];omega)];rfl
  rw[e,gat_msgs r l (i+1) 3 _ (by decide) (by decide)];simp[DbD.add]
theorem gat_nod (d:DbD):gatL 0 0 DbD.zero (nodL d)=.good (nrmV d):=by
 have h:∀ (i last:Nat) (e:DbD),last≤1→gatL i last e (.sta d.sta::(d.msgs.map .msg++d.tabs.map .tab))=.good { e with sta:=d.sta,msgs:=e.msgs++d.msgs,tabs:=e.tabs++d.tabs }:=fun i last e hl=>by
  show(if gatB i last (.sta d.sta) then GatR.bad 4 i else gatL (i+1) 2 (e.add (.sta d.sta)) (d.msgs.map .msg++d.tabs.map .tab))=_;have e1:gatB i last (.sta d.sta)=false:=by
   unfold gatB;rw[decide_eq_false (show ¬ 2≤last by omega),decide_eq_false (show ¬ (NodeD.sta d.sta).rank < last by simp only[NodeD.rank];omega)];rfl
  rw[e1,gat_msgs d.tabs d.msgs (i+1) 2 _ (by decide) (by decide)];rfl
 unfold nodL nrmV;cases hh:d.has
 ·rw[show(if false=true then [NodeD.ver d.ver] else [])=[]from rfl,List.nil_append,h 0 0 _ (by decide)];cases d
  simp only at hh;subst hh;rfl
 ·show(if gatB 0 0 (.ver d.ver) then GatR.bad 4 0 else gatL 1 1 (DbD.zero.add (.ver d.ver)) (.sta d.sta::(d.msgs.map .msg++d.tabs.map .tab)))=_;rw[show gatB 0 0 (.ver d.ver)=false from rfl,h 1 1 _ (by decide)];cases d
  simp only at hh;subst hh;rfl
theorem pfil_nod (d:DbD):pfilV (nodL d)=.tuple #[.string ⟨(filT d).toArray⟩,if filN d=0 then .nilIface else errV (filN d)]:=by
 unfold pfilV;rw[gat_nod,filB_nod,filL_nod];cases h:dbB d
 ·rw[(fil_bad d h).1,(fil_bad d h).2];rfl
 ·by_cases hl:(dbT d).length≤1048576
  ·rw[(fil_good d h hl).1,(fil_good d h hl).2];simp only[if_true];rw[if_pos hl]
  ·rw[(fil_long d h hl).1,(fil_long d h hl).2];simp only[if_true];rw[if_neg hl];rfl
theorem db_len {d:DbD} (ok:DbOK d) (fit:DbFit d) (hb:dbB d=true):(dbT d).length≤100000000000000:=by
 rw[dbB_eq]at hb;simp only[Bool.and_eq_true,decide_eq_true_eq]at hb;obtain⟨h1,h2,h3,h4⟩:=hb;have l1:=head_len d ok h1;have l2:=msgs_len d.msgs ok.ms h3;have l3:=tabs_len d.tabs ok.tb h4;have l4:=fit.tt;unfold dbT;rw[List.length_append,List.length_append,List.length_append];have:((if d.tabs.isEmpty then [] else [10]):List UInt8).length≤1:=by split<;>simp
 omega
open Go.Proofs.Tryz
open Go.RowKit
def abS:StaD:=⟨0,0,[[65],[66]]⟩
theorem abV:pfilV [.sta abS]=.tuple #[.string ⟨#[66,85,95,58,32,65,32,66,10]⟩,.nilIface]:=by
 rfl
set_option maxRecDepth 100000 in theorem works7_any (w : World) (hT : TabsU w) (hp : PowTab w) :
  Calls prog 5 #[] w fun e w'=>e=.returned (.bool true)∧Below w.heap.size w w':=by
 go_enter func5,ntmps5
 go_wp2_with fail;have hl:∀ ty,SlRd ((w.alloc (.cells #[.string ⟨#[65]⟩,.string ⟨#[66]⟩] 9)).alloc (.cells #[.iface 34 (.agg #[.int .i64 0,.int .i64 0,.slice (some ⟨w.heap.size,0,none⟩) 2 2])] ty)) rdNode 1 (some ⟨w.heap.size+1,0,none⟩) 1 [.sta abS]:=fun ty=>by
  have o1:=Owns.lit w w.heap.size enTx 1 (fun _=>rfl) [[65],[66]] #[.string ⟨#[65]⟩,.string ⟨#[66]⟩] 9 2 rfl rfl (by decide) lrf;have o2:=Owns.lit (w.alloc (.cells #[.string ⟨#[65]⟩,.string ⟨#[66]⟩] 9)) w.heap.size Row.en 1 Row.en_len [(⟨[.iface 34 (.agg #[.int .i64 0,.int .i64 0,.slice (some ⟨w.heap.size,0,none⟩) 2 2])],rfl⟩:Row 1)] #[.iface 34 (.agg #[.int .i64 0,.int .i64 0,.slice (some ⟨w.heap.size,0,none⟩) 2 2])] ty 1 rfl rfl (by decide) (by simp);have h2:=(Sl.of_owns o2).2;rw[World.size_alloc]at h2;exact⟨[(⟨[.iface 34 (.agg #[.int .i64 0,.int .i64 0,.slice (some ⟨w.heap.size,0,none⟩) 2 2])],rfl⟩:Row 1)],h2,.cons ⟨#[.int .i64 0,.int .i64 0,.slice (some ⟨w.heap.size,0,none⟩) 2 2],rfl,some ⟨w.heap.size,0,none⟩,2,rfl,(Sl.of_owns (o1.alloc _)).2⟩ .nil⟩
 with_reducible refine(pfile_any [.sta abS] (fun n hn=>?_) (fun n hn=>?_) (by decide) (fun _=>by decide) 1 rfl _ _ _ (hl _) (TabsU.keep hT ?_) (PowTab.keep hp ?_)).mono ?_
 ·obtain rfl:n=.sta abS:=by simpa using hn
  exact⟨by decide,by decide⟩
 ·obtain rfl:n=.sta abS:=by simpa using hn
  show(2:Nat)≤_;decide
 ·exact((Below.refl w.heap.size w).alloc lrf _).alloc (by simp) _
 ·exact((Below.refl w.heap.size w).alloc lrf _).alloc (by simp) _
 ·rintro e w1 ⟨rfl,hb⟩;rw[abV];have hb2:=bstep (((Below.refl w.heap.size w).alloc lrf _).alloc (by simp) _) hb lrf;clear hb hl;go_wp2_with fail;go_ret;exact⟨rfl,hb2⟩
theorem ne_kind {w:World} {k g:Nat} {C D:Array Value} {T U:TypeId} (h:w.heap[k]? = some (.cells C T)) (h':w.heap[g]? = some (.cells D U)) (hT:T≠U):k≠g:=by
 rintro rfl;rw[h]at h';cases h'
 exact hT rfl
structure BarAt (B k3 k4:Nat) (d:DbD) (u v z:Value) (w:World):Prop where
 b3:w.heap[k3]? = some (.cells (d.cells u v z) 38)
 b4:w.heap[k4]? = some (.cells #[.int .i64 0,.int .i64 0] 29)
 b2:w.heap[B+1]? = some (.cells zeroDb 38)
 nn:Owns w B 9 1 enTx u d.sta.names
 mm:OwnRd w B 72 (fdMsgN B) 8 v d.msgs
 tt:OwnRd w B 76 (fdTabN B) 6 z d.tabs
 lt:B+1 < k3
theorem BarAt.keep {B k3 k4:Nat} {d:DbD} {u v z:Value} {w w':World} (h:BarAt B k3 k4 d u v z w) (hb:Below w.heap.size w w'):BarAt B k3 k4 d u v z w':=
 ⟨Blk.kindAt h.b3 hb,Blk.kindAt h.b4 hb,Blk.kindAt h.b2 hb,h.nn.keep hb lrf,h.mm.keep (last_fdMsgN _) hb,h.tt.keep (last_fdTabN _) hb,h.lt⟩
theorem OwnRd.bound {α:Type} {rd:World→α→List Value→Prop} {w:World} {base:Nat} {T:TypeId} {n:Nat} {v:Value} {xs:List α} (h:OwnRd w base T rd n v xs):xs.length≤9223372036854775807:=by
 obtain⟨rows,h1,h2⟩:=h;have:=h2.len;by_cases h0:0 < rows.length
 ·obtain⟨g,cap,-,-,-,hle,hm⟩:=h1.block h0;omega
 ·omega
theorem BarAt.box {B k3 k4:Nat} {d:DbD} {u v z:Value} {w:World} (h:BarAt B k3 k4 d u v z w) (d':DbD) (j:Nat) (y:Value) (he:(d.cells u v z).setIfInBounds j y=d'.cells u v z) (h1:d'.sta.names=d.sta.names) (h2:d'.msgs=d.msgs) (h3:d'.tabs=d.tabs) :
  BarAt B k3 k4 d' u v z (w.setCell ⟨k3,j,none⟩ y):=
 ⟨by rw[← he];exact setCell_at h.b3 j y,setCell_ne h.b4 (Ne.symm (ne_kind h.b3 h.b4 (by decide))) j y,setCell_ne h.b2 (by have:=h.lt;omega) j y,
  by rw[h1];exact h.nn.setAt h.b3 (by decide) j y,by rw[h2];exact h.mm.setAt h.b3 (by decide) (apt_fdMsgN B (by decide) (by decide)) j y,by rw[h3];exact h.tt.setAt h.b3 (by decide) (apt_fdTabN B (by decide)) j y,h.lt⟩
theorem BarAt.msg {B k3 k4:Nat} {d:DbD} {u z:Value} {w:World} {b m cap:Nat} {D:Array Value} (h:BarAt B k3 k4 d u (.slice (some ⟨b,0,none⟩) m cap) z w) (hb:w.heap[b]? = some (.cells D 72)) {i:Nat} (hi:i < d.msgs.length) :
  BarAt B k3 k4 { d with msgs:=d.msgs.set i { d.msgs[i]with line:=0,col:=0 } } u (.slice (some ⟨b,0,none⟩) m cap) z ((w.setCell ⟨b,i*8,none⟩ (.int .i64 0)).setCell ⟨b,i*8+1,none⟩ (.int .i64 0)):=by
 have hb2:=setCell_at hb (i*8+0) (.int .i64 0);refine⟨setCell_ne (setCell_ne h.b3 (ne_kind h.b3 hb (by decide)) _ _) (ne_kind h.b3 hb (by decide)) _ _,setCell_ne (setCell_ne h.b4 (ne_kind h.b4 hb (by decide)) _ _) (ne_kind h.b4 hb (by decide)) _ _,setCell_ne (setCell_ne h.b2 (ne_kind h.b2 hb (by decide)) _ _) (ne_kind h.b2 hb (by decide)) _ _,
  (h.nn.setAt hb (by decide) _ _).setAt hb2 (by decide) _ _,h.mm.place (apt_fdMsgN B (by decide) (by decide)) (by decide) hi _ fun w' cs hr=>msg_placed hr,(h.tt.setAt hb (by decide) (apt_fdTabN B (by decide)) _ _).setAt hb2 (by decide) (apt_fdTabN B (by decide)) _ _,h.lt⟩
theorem BarAt.tab {B k3 k4:Nat} {d:DbD} {u v:Value} {w:World} {b m cap:Nat} {D:Array Value} (h:BarAt B k3 k4 d u v (.slice (some ⟨b,0,none⟩) m cap) w) (hb:w.heap[b]? = some (.cells D 76)) {i:Nat} (hi:i < d.tabs.length) :
  BarAt B k3 k4 { d with tabs:=d.tabs.set i { d.tabs[i]with line:=0,col:=0 } } u v (.slice (some ⟨b,0,none⟩) m cap) ((w.setCell ⟨b,i*6,none⟩ (.int .i64 0)).setCell ⟨b,i*6+1,none⟩ (.int .i64 0)):=by
 have hb2:=setCell_at hb (i*6+0) (.int .i64 0);refine⟨setCell_ne (setCell_ne h.b3 (ne_kind h.b3 hb (by decide)) _ _) (ne_kind h.b3 hb (by decide)) _ _,setCell_ne (setCell_ne h.b4 (ne_kind h.b4 hb (by decide)) _ _) (ne_kind h.b4 hb (by decide)) _ _,setCell_ne (setCell_ne h.b2 (ne_kind h.b2 hb (by decide)) _ _) (ne_kind h.b2 hb (by decide)) _ _,
  (h.nn.setAt hb (by decide) _ _).setAt hb2 (by decide) _ _,(h.mm.setAt hb (by decide) (apt_fdMsgN B (by decide) (by decide)) _ _).setAt hb2 (by decide) (apt_fdMsgN B (by decide) (by decide)) _ _,h.tt.place (apt_fdTabN B (by decide)) (by decide) hi _ fun w' cs hr=>tab_placed hr,h.lt⟩
theorem BarAt.sig {B k3 k4:Nat} {d:DbD} {u v vs z:Value} {w:World} {g:Nat} {D:Array Value} (h:BarAt B k3 k4 d u v z w) (hg:w.heap[g]? = some (.cells D 89)) {i k:Nat} (hi:i < d.msgs.length)
  (hv:∃ b cap,v=.slice (some ⟨b,0,none⟩) d.msgs.length cap∧w.rangeAt b (i*8) (d.msgs[i].cells vs).toList) (hb:vs.ownBlock=some g) :
  ∃ ms':List MsgD,BarAt B k3 k4 { d with msgs:=ms' } u v z ((w.setCell ⟨g,k*19,none⟩ (.int .i64 0)).setCell ⟨g,k*19+1,none⟩ (.int .i64 0))∧ms'.length=d.msgs.length∧ms'.map zMsg=d.msgs.map zMsg ∧
   (∀ j (h1:j < d.msgs.length) (h2:j < ms'.length),zMsg d.msgs[j]=d.msgs[j]→ms'[j]=d.msgs[j])∧(∀ h2:i < ms'.length,ms'[i].sigs=d.msgs[i].sigs.modify k zSig∧ms'[i].line=d.msgs[i].line∧ms'[i].col=d.msgs[i].col):=by
 obtain⟨ms',o1,o2⟩:=h.mm.struck (k:=k) hg hi hv hb;have hg2:=setCell_at hg (k*19+0) (.int .i64 0);refine⟨ms',⟨setCell_ne (setCell_ne h.b3 (ne_kind h.b3 hg (by decide)) _ _) (ne_kind h.b3 hg (by decide)) _ _,setCell_ne (setCell_ne h.b4 (ne_kind h.b4 hg (by decide)) _ _) (ne_kind h.b4 hg (by decide)) _ _,setCell_ne (setCell_ne h.b2 (ne_kind h.b2 hg (by decide)) _ _) (ne_kind h.b2 hg (by decide)) _ _,
  (h.nn.setAt hg (by decide) _ _).setAt hg2 (by decide) _ _,o1,(h.tt.setAt hg (by decide) (apt_fdTabN B (by decide)) _ _).setAt hg2 (by decide) (apt_fdTabN B (by decide)) _ _,h.lt⟩,o2⟩
theorem BarAt.cell {B k3 k4:Nat} {d:DbD} {u v z:Value} {w:World} (h:BarAt B k3 k4 d u v z w) (j:Nat) (y:Value) (hy:(d.cells u v z)[j]? = some y):w.cell? ⟨k3,j,none⟩=some y∧w.frozen? ⟨k3,j,none⟩=false:=by
 have:Blk w k3 (d.cells u v z):=⟨_,h.b3⟩
 exact⟨this.cell j y hy,this.free j⟩
def MsT (x:DbD) (k:Nat) (ms:List MsgD):Prop:=ms.length=x.msgs.length∧ms.map zMsg=x.msgs.map zMsg∧∀ r (h:r < ms.length),r < k→zMsg ms[r]=ms[r]
def MsI (k ns q:Nat) (ms:List MsgD):Prop:=∀ h:k < ms.length,ms[k].line=0∧ms[k].col=0∧ms[k].sigs.length=ns∧∀ t (ht:t < ms[k].sigs.length),t < q→zSig ms[k].sigs[t]=ms[k].sigs[t]
theorem MsT.start (x:DbD):MsT x 0 x.msgs:=⟨rfl,rfl,fun r h h0=>by omega⟩
theorem MsT.place {x:DbD} {k:Nat} {ms:List MsgD} (h:MsT x k ms) (hk:k < ms.length):MsT x k (ms.set k { ms[k]with line:=0,col:=0 }):=by
 obtain⟨h1,h2,h3⟩:=h;refine⟨by rw[List.length_set];exact h1,?_,fun r hr hlt=>?_⟩
 ·rw[← h2];refine List.ext_getElem (by simp) fun j k1 k2=>?_
  simp only[List.length_map,List.length_set]at k1 k2;simp only[List.getElem_map,List.getElem_set];split
  ·rename_i e
   subst e;rfl
  ·rfl
 ·rw[List.length_set]at hr;simp only[List.getElem_set_ne (show k≠r by omega)];exact h3 r hr hlt
theorem MsI.start {k:Nat} {ms:List MsgD} (hk:k < ms.length):MsI k ms[k].sigs.length 0 (ms.set k { ms[k]with line:=0,col:=0 }):=by
 intro h;simp only[List.getElem_set_self];exact⟨trivial,trivial,trivial,fun t ht h0=>by omega⟩
theorem MsT.struck {x:DbD} {k:Nat} {ms ms':List MsgD} (h:MsT x k ms) (h1:ms'.length=ms.length) (h2:ms'.map zMsg=ms.map zMsg) (h3:∀ j (k1:j < ms.length) (k2:j < ms'.length),zMsg ms[j]=ms[j]→ms'[j]=ms[j]):MsT x k ms':=by
 refine⟨h1.trans h.1,h2.trans h.2.1,fun r hr hlt=>?_⟩;have hf:=h.2.2 r (by omega) hlt;rw[h3 r (by omega) hr hf];exact hf
theorem MsI.next {k ns q:Nat} {ms ms':List MsgD} (h:MsI k ns q ms) (hk:k < ms.length) (h3:∀ h2:k < ms'.length,ms'[k].sigs=ms[k].sigs.modify q zSig∧ms'[k].line=ms[k].line∧ms'[k].col=ms[k].col):MsI k ns (q+1) ms':=by
 intro hk';obtain⟨e1,e2,e3⟩:=h3 hk';obtain⟨a1,a2,a3,a4⟩:=h hk;refine⟨by rw[e2];exact a1,by rw[e3];exact a2,by rw[e1,List.length_modify];exact a3,?_⟩;rw[e1];intro t ht hlt;rw[List.length_modify]at ht;simp only[List.getElem_modify];split
 ·rfl
 ·exact a4 t ht (by omega)
theorem MsT.next {x:DbD} {k ns:Nat} {ms:List MsgD} (h:MsT x k ms) (hi:MsI k ns ns ms):MsT x (k+1) ms:=by
 refine⟨h.1,h.2.1,fun r hr hlt=>?_⟩;by_cases e:r=k
 ·subst e;obtain⟨a1,a2,a3,a4⟩:=hi hr;have hs:ms[r].sigs.map zSig=ms[r].sigs:=by
   refine List.ext_getElem (by simp) fun j k1 k2=>?_
   simp only[List.getElem_map];exact a4 j k2 (by omega)
  unfold zMsg;rw[hs,← a1];generalize ms[r]=m at *;obtain⟨⟩:=m;simp only at a1 a2;subst a1 a2;rfl
 ·exact h.2.2 r hr (by omega)
theorem MsT.done {x:DbD} {ms:List MsgD} (h:MsT x x.msgs.length ms):ms=x.msgs.map zMsg:=by
 rw[← h.2.1];refine List.ext_getElem (by simp) fun j k1 k2=>?_
 simp only[List.getElem_map];exact(h.2.2 j k1 (by have:=h.1;omega)).symm
def TabT (x:DbD) (k:Nat) (ts:List TabD):Prop:=ts.length=x.tabs.length∧∀ r (h1:r < ts.length) (h2:r < x.tabs.length),ts[r]=if r < k then zTab x.tabs[r] else x.tabs[r]
theorem TabT.start (x:DbD):TabT x 0 x.tabs:=⟨rfl,fun r h1 h2=>by rw[if_neg (Nat.not_lt_zero _)]⟩
theorem TabT.next {x:DbD} {k:Nat} {ts:List TabD} (h:TabT x k ts) (hk:k < ts.length):TabT x (k+1) (ts.set k { ts[k]with line:=0,col:=0 }):=by
 refine⟨by rw[List.length_set];exact h.1,fun r h1 h2=>?_⟩;rw[List.length_set]at h1;have hr:=h.2 r h1 h2;by_cases e:k=r
 ·subst e;rw[List.getElem_set_self,if_pos (by omega),hr,if_neg (by omega)];rfl
 ·rw[List.getElem_set_ne e,hr];by_cases hlt:r < k
  ·rw[if_pos hlt,if_pos (by omega)]
  ·rw[if_neg hlt,if_neg (by omega)]
theorem TabT.done {x:DbD} {ts:List TabD} (h:TabT x x.tabs.length ts):ts=x.tabs.map zTab:=by
 refine List.ext_getElem (by rw[List.length_map];exact h.1) fun j k1 k2=>?_
 rw[List.length_map]at k2;rw[List.getElem_map,h.2 j k1 k2,if_pos k2]
set_option maxRecDepth 100000 in theorem bare_any (x : DbD) (hf : DbFit x) (w : World) (cs : Array Value) (hx : rdDb w x cs.toList) :
  Calls prog 11 #[.agg cs] w fun e w'=>∃ C:Array Value,e=.returned (.agg C)∧fdDbN w.heap.size w' (bareD x) C.toList∧Below w.heap.size w w':=by
 obtain⟨c1,c2,e0⟩:∃ (h1:cs.size=9) (h2:cs.all (·.oneCell')=true),True:=by
  obtain⟨a,cap,b,cb,c,cc,ecs,-⟩:=hx;rw[Array.toList_inj.1 ecs];exact⟨rfl,DbD.cells_one _ _ _ _ _ _ _ _ _ _,trivial⟩
 obtain⟨zb,zz,hz2,hbz⟩:=box2 w cs zeroDb 38 38;have hu:=underlying38;have C0:=Qh (copyDb_anyN x hf _ cs (last_rdDb _ _ _ _ hx hbz) w.heap.size hbz.size);have HBZ:=Qh hbz;have K2:=Qh (show((w.alloc (.cells cs 38)).alloc (.cells zeroDb 38)).heap[w.heap.size+1]? = some (.cells zeroDb 38)by simpa using heap_alloc_new (w.alloc (.cells cs 38)) (.cells zeroDb 38));clear hx;go_enter func11,ntmps11
 go_wp2_with (refine wpList_loadS zb 38 (.tmp 1) hu (by rw[c1];exact db_size) ?_)
 (with_reducible refine C0.out.mono ?_);rintro e w1 ⟨C,rfl,hfd,hb⟩;have hb1:=bstep HBZ.out hb lrf;have k2:=Blk.kindAt K2.out hb;obtain⟨u,v,z,eC,h1,h2,h3⟩:=hfd;obtain rfl:C=x.cells u v z:=Array.toList_inj.1 eC;clear eC;have q0:=DbD.cells_size x u v z;have q1:(x.cells u v z).all (·.oneCell')=true:=by
  obtain⟨a4,c4,rfl,-⟩:=h1.shape;obtain⟨a5,c5,rfl,-⟩:=h2.shape;obtain⟨a6,c6,rfl,-⟩:=h3.shape;exact DbD.cells_one _ _ _ _ _ _ _ _ _ _
 have hz1:w.heap.size+2≤w1.heap.size:=Nat.le_trans (by simp) hb.size;have A0:Hid (∀ o:Unit,BarAt w.heap.size w1.heap.size (w1.heap.size+1) x u v z ((w1.alloc (.cells (x.cells u v z) 38)).alloc (.cells #[.int .i64 0,.int .i64 0] 29))):=Qh fun _=>by
  have b1:Below w1.heap.size w1 (w1.alloc (.cells (x.cells u v z) 38)):=(Below.refl _ _).alloc lrf _;have b2:Below w1.heap.size w1 ((w1.alloc (.cells (x.cells u v z) 38)).alloc (.cells #[.int .i64 0,.int .i64 0] 29)):=b1.alloc (by simp) _;exact⟨by rw[Below.heap_alloc _ _ _ (by simp)];exact heap_alloc_new w1 _,by simpa using heap_alloc_new (w1.alloc (.cells (x.cells u v z) 38)) (.cells #[.int .i64 0,.int .i64 0] 29),Blk.kindAt k2 b2,h1.keep b2 lrf,h2.keep (last_fdMsgN _) b2,h3.keep (last_fdTabN _) b2,by omega⟩
 have HB1:=Qh hb1;have HZ1:=Qh hz1;clear h1 h2 h3 k2 hb hb1 hz1 zb zz hz2 hbz;go_upto_region 3 with (refine wpList_newS (Z:=zeroDb) (cs:=x.cells u v z) 38 (.tmp 3) (.tmp 9) (by rw[q0];exact db_zero) (by rw[q0];rfl) q1 ?_)
 have a0:=A0.out ();have hb0:Below w.heap.size w ((w1.alloc (.cells (x.cells u v z) 38)).alloc (.cells #[.int .i64 0,.int .i64 0] 29)):=(HB1.out.alloc (by have:=HZ1.out;omega) _).alloc (by have:=HZ1.out;simp;omega) _;have hk3:w.heap.size≤w1.heap.size:=(by have:=HZ1.out;omega);have HB0:=Qh hb0;clear A0 HB1 HZ1 HBZ C0 K2 hb0 q0 q1;generalize w1.heap.size=k3 at *;generalize (w1.alloc (.cells (x.cells u v z) 38)).alloc (.cells #[.int .i64 0,.int .i64 0] 29)=W1 at *;have f1:=a0.cell 1 (.int .i64 x.ver.line) rfl;have f2:=a0.cell 2 (.int .i64 x.ver.col) rfl;have p0:=Blk.cell ⟨_,a0.b4⟩ 0 (.int .i64 0) rfl;have p1:=Blk.cell ⟨_,a0.b4⟩ 1 (.int .i64 0) rfl;have A1:=Qh ((a0.box { x with ver:={ x.ver with line:=0 } } 1 (.int .i64 0) rfl rfl rfl rfl).box { x with ver:={ x.ver with line:=0,col:=0 } } 2 (.int .i64 0) rfl rfl rfl rfl);have HBA:=Qh (below_set (below_set HB0.out hk3 1 (.int .i64 0)) hk3 2 (.int .i64 0));clear a0 HB0;go_upto_region 4 with fail
 have a1:=A1.out;clear A1 p0 p1;generalize (W1.setCell ⟨k3,1,none⟩ (.int .i64 0)).setCell ⟨k3,2,none⟩ (.int .i64 0)=W4 at *;have f0:=(a1.cell 0 (.bool x.has) rfl).1;have f1:=a1.cell 1 (.int .i64 0) rfl;have f2:=a1.cell 2 (.int .i64 0) rfl;have f3:=a1.cell 3 (.string ⟨x.ver.text.toArray⟩) rfl;have a2:=((a1.box { x with ver:={ x.ver with line:=0,col:=0 } } 1 (.int .i64 0) rfl rfl rfl rfl).box { x with ver:={ x.ver with line:=0,col:=0 } } 2 (.int .i64 0) rfl rfl rfl rfl).box { x with ver:=⟨0,0,[]⟩ } 3 (.string ⟨#[]⟩) rfl rfl rfl rfl;have A2:=Qh a2;have HB2:=Qh (below_set (below_set (below_set HBA.out hk3 1 (.int .i64 0)) hk3 2 (.int .i64 0)) hk3 3 (.string ⟨#[]⟩));have A1:=Qh a1;clear a1 a2;go_upto_if 16 with fail
 go_cut [16] (fun s ws=>s=.bool (!x.has)∧BarAt w.heap.size k3 (k3+1) { x with ver:=if x.has then { x.ver with line:=0,col:=0 } else ⟨0,0,[]⟩ } u v z ws∧Below w.heap.size w ws)
 case first=>
  cases hx:x.has
  ·go_wp2_with fail;go_meet
   case rel=>
    refine⟨by rw[hx];rfl,?_,HB2.out⟩;rw[if_neg (by rw[hx];decide)];exact A2.out
  ·go_wp2_with fail;go_meet
   case rel=>
    refine⟨by rw[hx];rfl,?_,HBA.out⟩;rw[if_pos hx];exact A1.out
 case rest=>
 obtain⟨rfl,a3,hb3⟩:=hcut;clear HB2 A2 A1 f0 f1 f2 f3 HBA;obtain⟨V,hV⟩:∃ V:VerD,(if x.has then { x.ver with line:=0,col:=0 } else ⟨0,0,[]⟩)=V:=⟨_,rfl⟩
 rw[hV]at a3;have HV:=Qh hV;clear hV;have f4:=a3.cell 4 (.int .i64 x.sta.line) rfl;have f5:=a3.cell 5 (.int .i64 x.sta.col) rfl;have p0:=Blk.cell ⟨_,a3.b4⟩ 0 (.int .i64 0) rfl;have p1:=Blk.cell ⟨_,a3.b4⟩ 1 (.int .i64 0) rfl;have A4:=Qh ((a3.box { x with ver:=V,sta:={ x.sta with line:=0 } } 4 (.int .i64 0) rfl rfl rfl rfl).box { x with ver:=V,sta:={ x.sta with line:=0,col:=0 } } 5 (.int .i64 0) rfl rfl rfl rfl);have HB4:=Qh (below_set (below_set hb3 hk3 4 (.int .i64 0)) hk3 5 (.int .i64 0));clear a3 hb3;go_upto_region 7 with fail
 have a4:=A4.out;have hb4:=HB4.out;clear A4 HB4 p0 p1 f4 f5 c1 c2 e0;obtain⟨wc,hwc⟩:∃ y,y=wc:=⟨_,rfl⟩
 subst hwc;generalize (wc.setCell ⟨k3,4,none⟩ (.int .i64 0)).setCell ⟨k3,5,none⟩ (.int .i64 0)=W6 at *;obtain⟨va,vc,rfl,-⟩:=a4.mm.shape;obtain⟨ta,tc,rfl,-⟩:=a4.tt.shape;have st0:=MsT.start x;have A6:=Qh a4;clear a4;go_wp2_with fail;go_loopw [5,6] (fun i j wr=>∃ (k:Nat) (ms:List MsgD),k≤x.msgs.length∧i=.int .i64 k∧MsT x k ms∧BarAt w.heap.size k3 (k3+1) ⟨x.has,V,{ x.sta with line:=0,col:=0 },ms,x.tabs⟩ u (.slice va x.msgs.length vc) (.slice ta x.tabs.length tc) wr∧Below w.heap.size w wr) (fun i _ _=>x.msgs.length - (intOf i).toNat)
 case atStart=>exact⟨0,x.msgs,Nat.zero_le _,rfl,st0,A6.out,hb4⟩
 case round=>
  obtain⟨k,ms,hk,rfl,hms,ha,hbel⟩:=hrel;have f7:wr.cell? ⟨k3,7,none⟩=some (.slice va x.msgs.length vc):=(ha.cell 7 _ rfl).1;by_cases hlt:k < x.msgs.length
  ·have hk2:k < ms.length:=(by have:=hms.1;omega);have hkb:k+1≤4000000:=(by have:=hf.mm;omega);obtain⟨b,cap,hv,hbB,hbl,⟨D,hD⟩,cs',hcl,hfd,hrg⟩:=ha.mm.at0 (by decide) hk2;simp only[Value.slice.injEq]at hv;obtain⟨rfl,-,-⟩:=hv;obtain⟨vs,rfl,-⟩:=hfd;have p0:=Blk.cell ⟨_,ha.b4⟩ 0 (.int .i64 0) rfl;have p1:=Blk.cell ⟨_,ha.b4⟩ 1 (.int .i64 0) rfl;have g0:wr.cell? ⟨b,k*8,none⟩=some (.int .i64 ms[k].line):=(by simpa using hrg 0 (.int .i64 ms[k].line) rfl);have g1:=hrg 1 (.int .i64 ms[k].col) rfl;have r0:wr.frozen? ⟨b,k*8,none⟩=false:=Blk.free ⟨_,hD⟩ _;have r1:wr.frozen? ⟨b,k*8+1,none⟩=false:=Blk.free ⟨_,hD⟩ _;have A7:=Qh (show BarAt w.heap.size k3 (k3+1) ⟨x.has,V,{ x.sta with line:=0,col:=0 },ms.set k { ms[k]with line:=0,col:=0 },x.tabs⟩ u (.slice (some ⟨b,0,none⟩) x.msgs.length vc) (.slice ta x.tabs.length tc) _ from ha.msg hD hk2);have HB7:=Qh (below_set (below_set hbel hbB (k*8) (.int .i64 0)) hbB (k*8+1) (.int .i64 0));have HM:=Qh (hms.place hk2);have HI:=Qh (MsI.start hk2);clear ha hbel hrg hD hcl hms;go_upto_region 11 with fail
   have a7:=A7.out;have hb7:=HB7.out;have hm7:=HM.out;have hi7:=HI.out;clear A7 HB7 HM HI p0 p1 g0 g1 r0 r1 f7;generalize (wr.setCell ⟨b,k*8,none⟩ (.int .i64 0)).setCell ⟨b,k*8+1,none⟩ (.int .i64 0)=wx at *;generalize ms[k].sigs.length=ns at *;generalize ms.set k { ms[k]with line:=0,col:=0 } = ms2 at *;have HA7:=Qh a7;clear a7;go_wp2_with fail;go_loopw [6] (fun j ww=>∃ (q:Nat) (m3:List MsgD),q≤ns∧j=.int .i64 q∧MsT x k m3∧MsI k ns q m3∧BarAt w.heap.size k3 (k3+1) ⟨x.has,V,{ x.sta with line:=0,col:=0 },m3,x.tabs⟩ u (.slice (some ⟨b,0,none⟩) x.msgs.length vc) (.slice ta x.tabs.length tc) ww∧Below w.heap.size w ww) (fun j _=>ns - (intOf j).toNat)
   case atStart=>exact⟨0,ms2,Nat.zero_le _,rfl,hm7,hi7,HA7.out,hb7⟩
   case round=>
    obtain⟨q,m3,hq,rfl,hm3,hi3,ha,hbel⟩:=hrel;obtain⟨ww,hww⟩:∃ y,y=wr:=⟨_,rfl⟩
    subst hww;have hk3':k < m3.length:=(by have:=hm3.1;omega);have f7:ww.cell? ⟨k3,7,none⟩=some (.slice (some ⟨b,0,none⟩) x.msgs.length vc):=(ha.cell 7 _ rfl).1;obtain⟨b',cap',hv,-,-,-,cs',hcl,hfd,hrg⟩:=ha.mm.at0 (by decide) hk3';have hve:=hv;simp only[Value.slice.injEq,Option.some.injEq,Addr.mk.injEq,and_true]at hv;obtain⟨rfl,-,-⟩:=hv;obtain⟨vs,rfl,hos⟩:=hfd;obtain⟨sa,sc,hvs,-⟩:=hos.shape;rw[(hi3 hk3').2.2.1]at hvs;have g6:=hrg 7 vs rfl;have HRG:=Qh hrg;have HVE:=Qh hve;clear hrg hve hcl;by_cases hlq:q < ns
    ·have hq':q < m3[k].sigs.length:=(by rw[(hi3 hk3').2.2.1];exact hlq);have hqb:q+1≤9223372036854775807:=Nat.le_trans (Nat.succ_le_of_lt hq') hos.bound;obtain⟨g,gc,hv2,hgB,hgl,⟨G,hG⟩,ss,hsl,hfs,hsr⟩:=hos.at0 (by decide) hq';rw[(hi3 hk3').2.2.1]at hv2;obtain⟨vr,rfl,-⟩:=hfs;subst hv2;have p0:=Blk.cell ⟨_,ha.b4⟩ 0 (.int .i64 0) rfl;have p1:=Blk.cell ⟨_,ha.b4⟩ 1 (.int .i64 0) rfl;have g0:ww.cell? ⟨g,q*19,none⟩=some (.int .i64 m3[k].sigs[q].d.line):=(by simpa using hsr 0 (.int .i64 m3[k].sigs[q].d.line) rfl);have g1:=hsr 1 (.int .i64 m3[k].sigs[q].d.col) rfl;have r0:ww.frozen? ⟨g,q*19,none⟩=false:=Blk.free ⟨_,hG⟩ _;have r1:ww.frozen? ⟨g,q*19+1,none⟩=false:=Blk.free ⟨_,hG⟩ _;obtain⟨m4,A8,l4,z4,x4,i4⟩:=ha.sig (k:=q) hG (i:=k) hk3' ⟨b,cap',HVE.out,HRG.out⟩ rfl;have HA8:=Qh A8;have HM8:=Qh (hm3.struck l4 z4 x4);have HI8:=Qh (hi3.next hk3' i4);have HB8:=Qh (below_set (below_set hbel hgB (q*19) (.int .i64 0)) hgB (q*19+1) (.int .i64 0));clear A8 l4 z4 x4 i4 ha hbel hG hos hsr hsl hm3 hi3 HRG HVE hvs;go_wp2_with (go_still_tail 10,(by kernel_rfl))
     go_roundw;case rel=>exact⟨q+1,m4,by omega,by go_num,HM8.out,HI8.out,HA8.out.keep (Go.below_drewN (Below.refl _ _) 1),bstep HB8.out (Go.below_drewN (Below.refl _ _) 1) lrf⟩
     case measure=>simp[intOf];omega
    ·have e:q=ns:=(by omega);subst e;subst hvs;have HA9:=Qh ha;have HB9:=Qh hbel;have HM9:=Qh (hm3.next hi3);clear ha hbel hm3 hi3 HRG HVE hos;go_wp2_with fail;go_roundw;case rel=>exact⟨k+1,m3,by omega,by go_num,HM9.out,HA9.out,HB9.out⟩
     case measure=>simp[intOf];omega
  ·have e:k=x.msgs.length:=(by omega);subst e;obtain rfl:=hms.done;have HAT:=Qh ha;have HBT:=Qh hbel;clear ha hbel hms;have t0:=TabT.start x;have hbt:=HBT.out;obtain⟨w8,hw8⟩:∃ y,y=wr:=⟨_,rfl⟩
   subst hw8;go_wp2_with fail;go_loopw [7] (fun i wr=>∃ (k:Nat) (ts:List TabD),k≤x.tabs.length∧i=.int .i64 k∧TabT x k ts∧BarAt w.heap.size k3 (k3+1) ⟨x.has,V,{ x.sta with line:=0,col:=0 },x.msgs.map zMsg,ts⟩ u (.slice va x.msgs.length vc) (.slice ta x.tabs.length tc) wr∧Below w.heap.size w wr) (fun i _=>x.tabs.length - (intOf i).toNat)
   case atStart=>exact⟨0,x.tabs,Nat.zero_le _,rfl,t0,HAT.out,hbt⟩
   case round=>
    obtain⟨k,ts,hk,rfl,hts,ha,hbel⟩:=hrel;obtain⟨ww,hww⟩:∃ y,y=wr:=⟨_,rfl⟩
    subst hww;have f8:ww.cell? ⟨k3,8,none⟩=some (.slice ta x.tabs.length tc):=(ha.cell 8 _ rfl).1;by_cases hlt:k < x.tabs.length
    ·have hk2:k < ts.length:=(by have:=hts.1;omega);have hkb:k+1≤4000000:=(by have:=hf.tt;omega);obtain⟨b,cap,hv,hbB,hbl,⟨D,hD⟩,cs',hcl,hfd,hrg⟩:=ha.tt.at0 (by decide) hk2;simp only[Value.slice.injEq]at hv;obtain⟨rfl,-,-⟩:=hv;obtain⟨vs,rfl,-⟩:=hfd;have p0:=Blk.cell ⟨_,ha.b4⟩ 0 (.int .i64 0) rfl;have p1:=Blk.cell ⟨_,ha.b4⟩ 1 (.int .i64 0) rfl;have g0:ww.cell? ⟨b,k*6,none⟩=some (.int .i64 ts[k].line):=(by simpa using hrg 0 (.int .i64 ts[k].line) rfl);have g1:=hrg 1 (.int .i64 ts[k].col) rfl;have r0:ww.frozen? ⟨b,k*6,none⟩=false:=Blk.free ⟨_,hD⟩ _;have r1:ww.frozen? ⟨b,k*6+1,none⟩=false:=Blk.free ⟨_,hD⟩ _;have A7:=Qh (show BarAt w.heap.size k3 (k3+1) ⟨x.has,V,{ x.sta with line:=0,col:=0 },x.msgs.map zMsg,ts.set k { ts[k]with line:=0,col:=0 }⟩ u (.slice va x.msgs.length vc) (.slice (some ⟨b,0,none⟩) x.tabs.length tc) _ from ha.tab hD hk2);have HB7:=Qh (below_set (below_set hbel hbB (k*6) (.int .i64 0)) hbB (k*6+1) (.int .i64 0));have HM:=Qh (hts.next hk2);clear ha hbel hrg hD hcl hts;go_wp2_with fail;go_roundw;case rel=>exact⟨k+1,_,by omega,by go_num,HM.out,A7.out,HB7.out⟩
     case measure=>simp[intOf];omega
    ·have e:k=x.tabs.length:=(by omega);subst e;obtain rfl:=hts.done;have hbar:(⟨x.has,V,{ x.sta with line:=0,col:=0 },x.msgs.map zMsg,x.tabs.map zTab⟩:DbD)=bareD x:=by
      unfold bareD;rw[HV.out]
     rw[hbar]at ha;have HA:=Qh ha;have HB:=Qh hbel;have b3:Blk ww k3 _:=⟨_,ha.b3⟩
     have b2:Blk ww (w.heap.size+1) _:=⟨_,ha.b2⟩
     have q0:=DbD.cells_size (bareD x) u (.slice va x.msgs.length vc) (.slice ta x.tabs.length tc);have q1:((bareD x).cells u (.slice va x.msgs.length vc) (.slice ta x.tabs.length tc)).all (·.oneCell')=true:=by
      obtain⟨a4,c4,rfl,-⟩:=ha.nn.shape;exact DbD.cells_one _ _ _ _ _ _ _ _ _ _
     clear ha hbel hts hbar;generalize hE:(bareD x).cells u (.slice va x.msgs.length vc) (.slice ta x.tabs.length tc)=E at *;have HE:=Qh hE;clear hE;go_wp2_with (first|(refine wpList_loadS b3 38 (.tmp 3) hu (by rw[q0];exact db_size) ?_)|(refine wpList_storeS (cs:=E) b2 38 (.tmp 2) (.tmp 69) (by rw[q0];exact db_size) (by rw[q0];rfl) q1 ?_))
     have hrun:=run_loadS (b2.row E) 38 _ hu rfl (by rw[q0];exact db_size);have hb6:=below_row HB.out (show w.heap.size≤w.heap.size+1 by omega) E;refine bodyPost_ret (v:=.agg E) (by simp[results,results11,Act.put,asAddr,hrun]) rfl ⟨E,rfl,?_,hb6⟩;rw[← HE.out];have hh:=HA.out;refine⟨u,.slice va x.msgs.length vc,.slice ta x.tabs.length tc,rfl,?_,?_,?_⟩
     ·exact Owns.apt hh.nn (by decide) hh.b2 (fun b _ hne=>heap_setRow_other _ _ _ _ hne)
     ·exact OwnRd.apt hh.mm (by decide) (apt_fdMsgN _ (by decide) (by decide)) hh.b2 (by simp[World.setRow]) (fun b _ hne=>heap_setRow_other _ _ _ _ hne)
     ·exact OwnRd.apt hh.tt (by decide) (apt_fdTabN _ (by decide)) hh.b2 (by simp[World.setRow]) (fun b _ hne=>heap_setRow_other _ _ _ _ hne)
theorem OwnRd.weak {α:Type} {rd rd':World→α→List Value→Prop} {w:World} {base:Nat} {e:TypeId} {size:Nat} {v:Value} {xs:List α} (h:OwnRd w base e rd size v xs) (hm:∀ x cs,rd w x cs→rd' w x cs):OwnRd w base e rd' size v xs:=by
 obtain⟨rows,h1,h2⟩:=h;exact⟨rows,h1,h2.mono fun x r hr=>hm x _ hr⟩
theorem fdSigN_fd {B:Nat} {w:World} {x:SigX} {l:List Value} (h:fdSigN B w x l):fdSig w x l:=by
 obtain⟨v,e,ho⟩:=h;exact⟨v,e,ho.fromBase (Nat.zero_le _)⟩
theorem fdMsgN_fd {B:Nat} {w:World} {x:MsgD} {l:List Value} (h:fdMsgN B w x l):fdMsg w x l:=by
 obtain⟨v,e,ho⟩:=h;exact⟨v,e,(ho.fromBase (Nat.zero_le _)).weak fun _ _=>fdSigN_fd⟩
theorem fdTabN_fd {B:Nat} {w:World} {x:TabD} {l:List Value} (h:fdTabN B w x l):fdTab w x l:=by
 obtain⟨v,e,ho⟩:=h;exact⟨v,e,ho.fromBase (Nat.zero_le _)⟩
theorem fdDbN_fd {B:Nat} {w:World} {x:DbD} {l:List Value} (h:fdDbN B w x l):fdDb w x l:=by
 obtain⟨u,v,z,e,h1,h2,h3⟩:=h;exact⟨u,v,z,e,h1.fromBase (Nat.zero_le _),(h2.fromBase (Nat.zero_le _)).weak fun _ _=>fdMsgN_fd,(h3.fromBase (Nat.zero_le _)).weak fun _ _=>fdTabN_fd⟩
end Go.Proofs.YtkblpaabknjckaaGreatDoor
