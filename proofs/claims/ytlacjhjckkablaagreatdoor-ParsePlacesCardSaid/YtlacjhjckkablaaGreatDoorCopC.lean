/-
  The reference's copies of messages, tables, stations: contracts. (Printed by gen_cop.py.)
-/
import Derived.Test.YtlacjhjckkablaaGreatDoorPrnF
import Derived.Test.YtlacjhjckkablaaGreatDoorListTxt
import Derived.Test.YtlacjhjckkablaaGreatDoorHeldP
import Derived.Test.YtlacjhjckkablaaGreatDoorBaseD
set_option maxHeartbeats 128000000
set_option linter.unusedVariables false
namespace Go.Proofs.YtlacjhjckkablaaGreatDoor
open Go.Proofs.Tryz
open Go.RowKit Go.Shelf
def SigD.cells (d:SigD) (tv:Value):Array Value:=#[.int .i64 d.line,.int .i64 d.col,.string ⟨d.name.toArray⟩,.int .i64 d.role,.int .u64 (d.branch:Nat),.int .i64 d.start,.int .i64 d.size,.bool d.moto,.bool d.signed,.int .i64 d.sn,.int .i64 d.sd,.int .i64 d.on,.int .i64 d.od,.int .i64 d.mn,.int .i64 d.md,.int .i64 d.xn,.int .i64 d.xd,.string ⟨d.unit.toArray⟩,tv]
theorem SigD.cells_one (d:SigD) (a:Option Addr) (n c:Nat):(d.cells (.slice a n c)).all (·.oneCell')=true:=by unfold SigD.cells;simp[Value.oneCell']
abbrev zeroSig:Array Value:=#[.int .i64 0,.int .i64 0,.string ⟨#[]⟩,.int .i64 0,.int .u64 0,.int .i64 0,.int .i64 0,.bool false,.bool false,.int .i64 0,.int .i64 0,.int .i64 0,.int .i64 0,.int .i64 0,.int .i64 0,.int .i64 0,.int .i64 0,.string ⟨#[]⟩,.slice none 0 0]
theorem sig_zero:(prog.info? 82).map (fun i=>(i.zero,i.size))=some (some (.agg zeroSig),19):=by kernel_rfl
theorem sig_size:(prog.info? 82).map (·.size)=some 19:=by kernel_rfl
open Go.RowKit
structure SigX where
 d:SigD
 rs:List (List UInt8)
structure MsgD where
 line:Int
 col:Int
 id:Nat
 wide:Bool
 name:List UInt8
 size:Int
 sender:List UInt8
 sigs:List SigX
structure TabD where
 line:Int
 col:Int
 id:Nat
 wide:Bool
 sig:List UInt8
 rows:List (Int×List UInt8)
structure StaD where
 line:Int
 col:Int
 names:List (List UInt8)
structure VerD where
 line:Int
 col:Int
 text:List UInt8
inductive NodeD where
 | ver (v:VerD)
 | sta (s:StaD)
 | msg (m:MsgD)
 | tab (t:TabD)
structure DbD where
 has:Bool
 ver:VerD
 sta:StaD
 msgs:List MsgD
 tabs:List TabD
def MsgD.cells (m:MsgD) (sv:Value):Array Value:=#[.int .i64 m.line,.int .i64 m.col,.int .u32 (m.id:Nat),.bool m.wide,.string ⟨m.name.toArray⟩,.int .i64 m.size,.string ⟨m.sender.toArray⟩,sv]
def TabD.cells (t:TabD) (rv:Value):Array Value:=#[.int .i64 t.line,.int .i64 t.col,.int .u32 (t.id:Nat),.bool t.wide,.string ⟨t.sig.toArray⟩,rv]
def StaD.cells (s:StaD) (nv:Value):Array Value:=#[.int .i64 s.line,.int .i64 s.col,nv]
def VerD.cells (v:VerD):Array Value:=#[.int .i64 v.line,.int .i64 v.col,.string ⟨v.text.toArray⟩]
def DbD.cells (d:DbD) (nv mv tv:Value):Array Value:=#[.bool d.has,.int .i64 d.ver.line,.int .i64 d.ver.col,.string ⟨d.ver.text.toArray⟩,.int .i64 d.sta.line,.int .i64 d.sta.col,nv,mv,tv]
def enRw (x:Int×List UInt8):List Value:=[.int .i64 x.1,.string ⟨x.2.toArray⟩]
theorem enRw_len (x:Int×List UInt8):(enRw x).length=2:=rfl
def rdSig (w:World) (x:SigX) (cs:List Value):Prop:=∃ a cap,cs=(x.d.cells (.slice a x.rs.length cap)).toList∧SlX w a cap x.rs
def rdMsg (w:World) (m:MsgD) (cs:List Value):Prop:=∃ a cap,cs=(m.cells (.slice a m.sigs.length cap)).toList∧SlRd w rdSig 19 a cap m.sigs
def rdTab (w:World) (t:TabD) (cs:List Value):Prop:=∃ a cap,cs=(t.cells (.slice a t.rows.length cap)).toList∧SlOf w enRw 2 a cap t.rows
def rdSta (w:World) (s:StaD) (cs:List Value):Prop:=∃ a cap,cs=(s.cells (.slice a s.names.length cap)).toList∧SlX w a cap s.names
def rdNode (w:World) (n:NodeD) (cs:List Value):Prop:=match n with
 | .ver v=>cs=[.iface 30 (.agg v.cells)]
 | .sta s=>∃ C:Array Value,cs=[.iface 33 (.agg C)]∧rdSta w s C.toList
 | .msg m=>∃ C:Array Value,cs=[.iface 77 (.agg C)]∧rdMsg w m C.toList
 | .tab t=>∃ C:Array Value,cs=[.iface 111 (.agg C)]∧rdTab w t C.toList
def rdDb (w:World) (d:DbD) (cs:List Value):Prop:=∃ a cap b cbp c ccp,cs=(d.cells (.slice a d.sta.names.length cap) (.slice b d.msgs.length cbp) (.slice c d.tabs.length ccp)).toList ∧
 SlX w a cap d.sta.names∧SlRd w rdMsg 8 b cbp d.msgs∧SlRd w rdTab 6 c ccp d.tabs
def fdSigN (b:Nat) (w:World) (x:SigX) (cs:List Value):Prop:=∃ v,cs=(x.d.cells v).toList∧Owns w b 9 1 enTx v x.rs
def fdMsgN (b:Nat) (w:World) (m:MsgD) (cs:List Value):Prop:=∃ v,cs=(m.cells v).toList∧OwnRd w b 82 (fdSigN b) 19 v m.sigs
def fdTabN (b:Nat) (w:World) (t:TabD) (cs:List Value):Prop:=∃ v,cs=(t.cells v).toList∧Owns w b 178 2 enRw v t.rows
def fdStaN (b:Nat) (w:World) (s:StaD) (cs:List Value):Prop:=∃ v,cs=(s.cells v).toList∧Owns w b 9 1 enTx v s.names
def fdDbN (b:Nat) (w:World) (d:DbD) (cs:List Value):Prop:=∃ u v z,cs=(d.cells u v z).toList ∧
 Owns w b 9 1 enTx u d.sta.names∧OwnRd w b 77 (fdMsgN b) 8 v d.msgs∧OwnRd w b 111 (fdTabN b) 6 z d.tabs
abbrev fdSig:=fdSigN 0
abbrev fdMsg:=fdMsgN 0
abbrev fdTab:=fdTabN 0
abbrev fdSta:=fdStaN 0
abbrev fdDb:=fdDbN 0
def fdNode (w:World) (n:NodeD) (cs:List Value):Prop:=match n with
 | .ver v=>cs=[.iface 30 (.agg v.cells)]
 | .sta s=>∃ C:Array Value,cs=[.iface 33 (.agg C)]∧fdSta w s C.toList
 | .msg m=>∃ C:Array Value,cs=[.iface 77 (.agg C)]∧fdMsg w m C.toList
 | .tab t=>∃ C:Array Value,cs=[.iface 111 (.agg C)]∧fdTab w t C.toList
theorem SlRd.weak {α:Type} {rd rd':World→α→List Value→Prop} {w:World} {size:Nat} {a:Option Addr} {cap:Nat} {xs:List α} (h:SlRd w rd size a cap xs) (hm:∀ x cs,rd w x cs→rd' w x cs):SlRd w rd' size a cap xs:=by
 obtain⟨rows,h1,h2⟩:=h;exact⟨rows,h1,h2.mono fun x r hr=>hm x _ hr⟩
theorem fd_sig {w:World} {x:SigX} {cs:List Value} (h:fdSig w x cs):rdSig w x cs:=by
 obtain⟨v,rfl,ho⟩:=h;obtain⟨a,cap,rfl,hs⟩:=ho.shape;exact⟨a,cap,rfl,hs⟩
theorem fd_msg {w:World} {m:MsgD} {cs:List Value} (h:fdMsg w m cs):rdMsg w m cs:=by
 obtain⟨v,rfl,ho⟩:=h;obtain⟨a,cap,rfl,hs⟩:=ho.shape;exact⟨a,cap,rfl,hs.weak fun _ _=>fd_sig⟩
theorem fd_tab {w:World} {t:TabD} {cs:List Value} (h:fdTab w t cs):rdTab w t cs:=by
 obtain⟨v,rfl,ho⟩:=h;obtain⟨a,cap,rfl,hs⟩:=ho.shape;exact⟨a,cap,rfl,hs⟩
theorem fd_sta {w:World} {s:StaD} {cs:List Value} (h:fdSta w s cs):rdSta w s cs:=by
 obtain⟨v,rfl,ho⟩:=h;obtain⟨a,cap,rfl,hs⟩:=ho.shape;exact⟨a,cap,rfl,hs⟩
theorem fd_node {w:World} {n:NodeD} {cs:List Value} (h:fdNode w n cs):rdNode w n cs:=by
 cases n with
 | ver v=>exact h
 | sta s=>obtain⟨C,h1,h2⟩:=h;exact⟨C,h1,fd_sta h2⟩
 | msg m=>obtain⟨C,h1,h2⟩:=h;exact⟨C,h1,fd_msg h2⟩
 | tab t=>obtain⟨C,h1,h2⟩:=h;exact⟨C,h1,fd_tab h2⟩
theorem fd_db {w:World} {d:DbD} {cs:List Value} (h:fdDb w d cs):rdDb w d cs:=by
 obtain⟨u,v,z,rfl,h1,h2,h3⟩:=h;obtain⟨a,cap,rfl,hs⟩:=h1.shape;obtain⟨b,cb,rfl,hm⟩:=h2.shape;obtain⟨c,cc,rfl,ht⟩:=h3.shape;exact⟨a,cap,b,cb,c,cc,rfl,hs,hm.weak fun _ _=>fd_msg,ht.weak fun _ _=>fd_tab⟩
theorem last_rdSig:Lasts rdSig:=fun w w' x cs ⟨a,cap,h1,h2⟩ hb=>⟨a,cap,h1,h2.keep hb lrf⟩
theorem last_rdMsg:Lasts rdMsg:=fun w w' x cs ⟨a,cap,h1,h2⟩ hb=>⟨a,cap,h1,h2.keep last_rdSig hb⟩
theorem last_rdTab:Lasts rdTab:=fun w w' x cs ⟨a,cap,h1,h2⟩ hb=>⟨a,cap,h1,h2.keep hb lrf⟩
theorem last_rdSta:Lasts rdSta:=fun w w' x cs ⟨a,cap,h1,h2⟩ hb=>⟨a,cap,h1,h2.keep hb lrf⟩
theorem last_rdNode:Lasts rdNode:=fun w w' x cs h hb=>by
 cases x with
 | ver v=>exact h
 | sta s=>obtain⟨C,h1,h2⟩:=h;exact⟨C,h1,last_rdSta _ _ _ _ h2 hb⟩
 | msg m=>obtain⟨C,h1,h2⟩:=h;exact⟨C,h1,last_rdMsg _ _ _ _ h2 hb⟩
 | tab t=>obtain⟨C,h1,h2⟩:=h;exact⟨C,h1,last_rdTab _ _ _ _ h2 hb⟩
theorem last_fdSigN (b:Nat):Lasts (fdSigN b):=fun w w' x cs ⟨v,h1,h2⟩ hb=>⟨v,h1,h2.keep hb lrf⟩
theorem last_fdMsgN (b:Nat):Lasts (fdMsgN b):=fun w w' x cs ⟨v,h1,h2⟩ hb=>⟨v,h1,h2.keep (last_fdSigN b) hb⟩
theorem last_fdTabN (b:Nat):Lasts (fdTabN b):=fun w w' x cs ⟨v,h1,h2⟩ hb=>⟨v,h1,h2.keep hb lrf⟩
theorem last_fdDbN (b:Nat):Lasts (fdDbN b):=fun w w' x cs ⟨u,v,z,h1,h2,h3,h4⟩ hb=>⟨u,v,z,h1,h2.keep hb lrf,h3.keep (last_fdMsgN b) hb,h4.keep (last_fdTabN b) hb⟩
theorem Owns.apt {α:Type} {w w':World} {base:Nat} {e' e:TypeId} {size:Nat} {en:α→List Value} {v:Value} {xs:List α} (h:Owns w base e' size en v xs) (he:e'≠e) {k:Nat} {C:Array Value} {fz:Nat×Nat} (hk:w.heap[k]? = some (.cells C e fz))
  (hb:∀ b,b < w.heap.size→b≠k→w'.heap[b]? = w.heap[b]?):Owns w' base e' size en v xs:=by
 refine h.ofBlock fun g hg=>hb g (h.lt g hg).2 fun e0=>?_
 subst e0;obtain⟨c,f,h3⟩:=Lib.ownsRow_kind h g hg;rw[h3]at hk;cases hk
 exact he rfl
theorem OwnRd.apt {α:Type} {rd:World→α→List Value→Prop} {w w':World} {base:Nat} {e' e:TypeId} {size:Nat} {v:Value} {xs:List α} (h:OwnRd w base e' rd size v xs) (he:e'≠e) (ha:Apt rd e) {k:Nat} {C:Array Value} {fz:Nat×Nat} (hk:w.heap[k]? = some (.cells C e fz))
  (hz:w.heap.size≤w'.heap.size) (hb:∀ b,b < w.heap.size→b≠k→w'.heap[b]? = w.heap[b]?):OwnRd w' base e' rd size v xs:=by
 obtain⟨rows,h1,h2⟩:=h;exact⟨rows,h1.apt he hk hb,h2.mono fun x r hr=>ha _ _ _ _ _ _ _ hr hk hz hb⟩
theorem apt_fdSigN (b:Nat) {e:TypeId} (he:9≠e):Apt (fdSigN b) e:=fun w w' x cs k C fz ⟨v,h1,h2⟩ hk _ hb=>⟨v,h1,h2.apt he hk hb⟩
theorem apt_fdMsgN (b:Nat) {e:TypeId} (he:9≠e) (he2:82≠e):Apt (fdMsgN b) e:=fun w w' x cs k C fz ⟨v,h1,h2⟩ hk hz hb=>⟨v,h1,h2.apt he2 (apt_fdSigN b he) hk hz hb⟩
theorem apt_fdTabN (b:Nat) {e:TypeId} (he:178≠e):Apt (fdTabN b) e:=fun w w' x cs k C fz ⟨v,h1,h2⟩ hk _ hb=>⟨v,h1,h2.apt he hk hb⟩
theorem rows_ty:SlTy prog 109 178 2 24:=SlTy.mk' (.agg #[.int .i64 0,.string ⟨#[]⟩]) underlying109 (by kernel_rfl) rfl (by decide) (by decide)
theorem sigs_ty:SlTy prog 75 82 19 176:=SlTy.mk' (.agg zeroSig) underlying75 (by kernel_rfl) rfl (by decide) (by decide)
theorem SlRw.at {w:World} {a:Option Addr} {cap:Nat} {l:List (Int×List UInt8)} (h:SlOf w enRw 2 a cap l) {k:Nat} (hk:k < l.length) :
  ∃ b o,a=some ⟨b,o,none⟩∧b < w.heap.size∧w.cell? ⟨b,o+k*2,none⟩=some (.int .i64 l[k].1)∧w.cell? ⟨b,o+k*2+1,none⟩=some (.string ⟨l[k].2.toArray⟩):=by
 obtain⟨b,o,rfl,hb,hc⟩:=SlOf.cells h enRw_len (by decide) hk;exact⟨b,o,rfl,hb,hc 0 (by decide),by rw[Nat.add_assoc];exact hc 1 (by decide)⟩
theorem fold_setL:∀ (l:List Value) (k:Nat) (Z:Array Value),k+l.length≤Z.size →
  ((l.zipIdx k).foldl (fun (cs:Array Value) x=>cs.setIfInBounds x.2 x.1) Z).toList=Z.toList.take k++l++Z.toList.drop (k+l.length)
 | [],k,Z,h=>by simp
 | v::l,k,Z,h=>by
  simp only[List.length_cons]at h;have hk:k < Z.toList.length:=(by rw[Array.length_toList];omega);rw[List.zipIdx_cons,List.foldl_cons,fold_setL l (k+1) (Z.setIfInBounds k v) (by rw[Array.size_setIfInBounds];omega)];rw[Array.toList_setIfInBounds,List.set_eq_take_append_cons_drop,if_pos hk];have e1:(Z.toList.take k).length=k:=(by rw[List.length_take];omega);have e2:List.take (k+1) (List.take k Z.toList++v::List.drop (k+1) Z.toList)=List.take k Z.toList++[v]:=by
   rw[List.take_append,e1,List.take_of_length_le (by rw[e1];omega)];simp
  have e3:List.drop (k+1+l.length) (List.take k Z.toList++v::List.drop (k+1) Z.toList)=List.drop (k+1+l.length) Z.toList:=by
   rw[List.drop_append,e1,List.drop_eq_nil_of_le (by rw[e1];omega),List.nil_append,show k+1+l.length - k=l.length+1 by omega,List.drop_succ_cons,List.drop_drop]
  rw[e2,e3];simp only[List.append_assoc,List.cons_append,List.nil_append,List.length_cons];rw[show k+1+l.length=k+(l.length+1)by omega]
theorem fold_set (Z C:Array Value) (n:Nat) (hC:C.size=n) (hZ:Z.size=n):Array.foldl (fun (cs:Array Value) x=>cs.setIfInBounds x.2 x.1) Z C.zipIdx 0 n=C:=by
 subst hC;have e:C.size=C.zipIdx.size:=(by simp);apply Array.ext';have h:=fold_setL C.toList 0 Z (by simp;omega);rw[e,← Array.foldl_toList,Array.toList_zipIdx,h];simp[hZ]
theorem fdSig_size {B:Nat} {w:World} {x:SigX} {cs:List Value} (h:(fdSigN B) w x cs):cs.length=19:=by
 obtain⟨v,rfl,_⟩:=h;rfl
theorem fdSig_one {B:Nat} {w:World} {x:SigX} {C:Array Value} (h:(fdSigN B) w x C.toList):C.all (·.oneCell')=true:=by
 obtain⟨v,e,ho⟩:=h;obtain⟨a,cap,rfl,_⟩:=ho.shape;rw[Array.toList_inj.1 e];exact SigD.cells_one _ _ _ _
theorem MsgD.cells_one (d:MsgD) (a:Option Addr) (n c:Nat):(d.cells (.slice a n c)).all (·.oneCell')=true:=by unfold MsgD.cells;simp[Value.oneCell']
abbrev zeroMsgD:Array Value:=#[.int .i64 0,.int .i64 0,.int .u32 0,.bool false,.string ⟨#[]⟩,.int .i64 0,.string ⟨#[]⟩,.slice none 0 0]
theorem msg_zero:(prog.info? 77).map (fun i=>(i.zero,i.size))=some (some (.agg zeroMsgD),8):=by kernel_rfl
theorem msg_size:(prog.info? 77).map (·.size)=some 8:=by kernel_rfl
theorem TabD.cells_one (d:TabD) (a:Option Addr) (n c:Nat):(d.cells (.slice a n c)).all (·.oneCell')=true:=by unfold TabD.cells;simp[Value.oneCell']
abbrev zeroTabD:Array Value:=#[.int .i64 0,.int .i64 0,.int .u32 0,.bool false,.string ⟨#[]⟩,.slice none 0 0]
theorem tab_zero:(prog.info? 111).map (fun i=>(i.zero,i.size))=some (some (.agg zeroTabD),6):=by kernel_rfl
theorem tab_size:(prog.info? 111).map (·.size)=some 6:=by kernel_rfl
theorem StaD.cells_one (d:StaD) (a:Option Addr) (n c:Nat):(d.cells (.slice a n c)).all (·.oneCell')=true:=by unfold StaD.cells;simp[Value.oneCell']
abbrev zeroStaD:Array Value:=#[.int .i64 0,.int .i64 0,.slice none 0 0]
theorem sta_zero:(prog.info? 33).map (fun i=>(i.zero,i.size))=some (some (.agg zeroStaD),3):=by kernel_rfl
theorem sta_size:(prog.info? 33).map (·.size)=some 3:=by kernel_rfl
theorem msgs_ty:SlTy prog 34 77 8 88:=SlTy.mk' (.agg zeroMsgD) underlying34 (by kernel_rfl) rfl (by decide) (by decide)
theorem tabs_ty:SlTy prog 35 111 6 64:=SlTy.mk' (.agg zeroTabD) underlying35 (by kernel_rfl) rfl (by decide) (by decide)
end Go.Proofs.YtlacjhjckkablaaGreatDoor
