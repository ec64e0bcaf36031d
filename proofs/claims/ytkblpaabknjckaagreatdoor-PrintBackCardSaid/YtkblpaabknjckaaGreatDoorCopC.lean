/-
  The reference's copies of messages, tables, stations: contracts. (Printed by gen_cop.py.)
-/
import Derived.Test.YtkblpaabknjckaaGreatDoorPrnF
import Derived.Test.YtkblpaabknjckaaGreatDoorListTxt
import Derived.Test.YtkblpaabknjckaaGreatDoorAppC
import Derived.Test.YtkblpaabknjckaaGreatDoorBaseD
set_option maxHeartbeats 128000000
set_option linter.unusedVariables false
namespace Go.Proofs.YtkblpaabknjckaaGreatDoor
open Go.Proofs.Tryz
open Go.RowKit Go.Shelf
def SigD.cells (d:SigD) (tv:Value):Array Value:=#[.int .i64 d.line,.int .i64 d.col,.string ⟨d.name.toArray⟩,.int .i64 d.role,.int .u64 (d.branch:Nat),.int .i64 d.start,.int .i64 d.size,.bool d.moto,.bool d.signed,.int .i64 d.sn,.int .i64 d.sd,.int .i64 d.on,.int .i64 d.od,.int .i64 d.mn,.int .i64 d.md,.int .i64 d.xn,.int .i64 d.xd,.string ⟨d.unit.toArray⟩,tv]
theorem SigD.agg_eq (d:SigD) (tv:Value):d.agg tv=.agg (d.cells tv):=rfl
theorem SigD.cells_size (d:SigD) (tv:Value):(d.cells tv).size=19:=rfl
theorem SigD.cells_one (d:SigD) (a:Option Addr) (n c:Nat):(d.cells (.slice a n c)).all (·.oneCell')=true:=by unfold SigD.cells;simp[Value.oneCell']
theorem SigD.cells_to (d:SigD) (tv:Value):(d.cells tv)[18]? = some tv:=rfl
theorem SigD.cells_set (d:SigD) (tv v:Value):(d.cells tv).setIfInBounds 18 v=d.cells v:=rfl
abbrev zeroSig:Array Value:=#[.int .i64 0,.int .i64 0,.string ⟨#[]⟩,.int .i64 0,.int .u64 0,.int .i64 0,.int .i64 0,.bool false,.bool false,.int .i64 0,.int .i64 0,.int .i64 0,.int .i64 0,.int .i64 0,.int .i64 0,.int .i64 0,.int .i64 0,.string ⟨#[]⟩,.slice none 0 0]
theorem sig_zero:(prog.info? 89).map (fun i=>(i.zero,i.size))=some (some (.agg zeroSig),19):=by kernel_rfl
theorem sig_size:(prog.info? 89).map (·.size)=some 19:=by kernel_rfl
open Go.RowKit
structure SigX where
 d:SigD
 rs:List (List UInt8)
structure MsgD where
 line:Int
 col:Int
 id:Nat
 wide:Bool
 name:List UInt8
 size:Int
 sender:List UInt8
 sigs:List SigX
structure TabD where
 line:Int
 col:Int
 id:Nat
 wide:Bool
 sig:List UInt8
 rows:List (Int×List UInt8)
structure StaD where
 line:Int
 col:Int
 names:List (List UInt8)
structure VerD where
 line:Int
 col:Int
 text:List UInt8
inductive NodeD where
 | ver (v:VerD)
 | sta (s:StaD)
 | msg (m:MsgD)
 | tab (t:TabD)
structure DbD where
 has:Bool
 ver:VerD
 sta:StaD
 msgs:List MsgD
 tabs:List TabD
def MsgD.cells (m:MsgD) (sv:Value):Array Value:=#[.int .i64 m.line,.int .i64 m.col,.int .u32 (m.id:Nat),.bool m.wide,.string ⟨m.name.toArray⟩,.int .i64 m.size,.string ⟨m.sender.toArray⟩,sv]
def TabD.cells (t:TabD) (rv:Value):Array Value:=#[.int .i64 t.line,.int .i64 t.col,.int .u32 (t.id:Nat),.bool t.wide,.string ⟨t.sig.toArray⟩,rv]
def StaD.cells (s:StaD) (nv:Value):Array Value:=#[.int .i64 s.line,.int .i64 s.col,nv]
def VerD.cells (v:VerD):Array Value:=#[.int .i64 v.line,.int .i64 v.col,.string ⟨v.text.toArray⟩]
def DbD.cells (d:DbD) (nv mv tv:Value):Array Value:=#[.bool d.has,.int .i64 d.ver.line,.int .i64 d.ver.col,.string ⟨d.ver.text.toArray⟩,.int .i64 d.sta.line,.int .i64 d.sta.col,nv,mv,tv]
def enRw (x:Int×List UInt8):List Value:=[.int .i64 x.1,.string ⟨x.2.toArray⟩]
theorem enRw_len (x:Int×List UInt8):(enRw x).length=2:=rfl
def rdSig (w:World) (x:SigX) (cs:List Value):Prop:=∃ a cap,cs=(x.d.cells (.slice a x.rs.length cap)).toList∧SlX w a cap x.rs
def rdMsg (w:World) (m:MsgD) (cs:List Value):Prop:=∃ a cap,cs=(m.cells (.slice a m.sigs.length cap)).toList∧SlRd w rdSig 19 a cap m.sigs
def rdTab (w:World) (t:TabD) (cs:List Value):Prop:=∃ a cap,cs=(t.cells (.slice a t.rows.length cap)).toList∧SlOf w enRw 2 a cap t.rows
def rdSta (w:World) (s:StaD) (cs:List Value):Prop:=∃ a cap,cs=(s.cells (.slice a s.names.length cap)).toList∧SlX w a cap s.names
def rdNode (w:World) (n:NodeD) (cs:List Value):Prop:=match n with
 | .ver v=>cs=[.iface 31 (.agg v.cells)]
 | .sta s=>∃ C:Array Value,cs=[.iface 34 (.agg C)]∧rdSta w s C.toList
 | .msg m=>∃ C:Array Value,cs=[.iface 72 (.agg C)]∧rdMsg w m C.toList
 | .tab t=>∃ C:Array Value,cs=[.iface 76 (.agg C)]∧rdTab w t C.toList
def rdDb (w:World) (d:DbD) (cs:List Value):Prop:=∃ a cap b cbp c ccp,cs=(d.cells (.slice a d.sta.names.length cap) (.slice b d.msgs.length cbp) (.slice c d.tabs.length ccp)).toList ∧
 SlX w a cap d.sta.names∧SlRd w rdMsg 8 b cbp d.msgs∧SlRd w rdTab 6 c ccp d.tabs
def fdSigN (b:Nat) (w:World) (x:SigX) (cs:List Value):Prop:=∃ v,cs=(x.d.cells v).toList∧Owns w b 9 1 enTx v x.rs
def fdMsgN (b:Nat) (w:World) (m:MsgD) (cs:List Value):Prop:=∃ v,cs=(m.cells v).toList∧OwnRd w b 89 (fdSigN b) 19 v m.sigs
def fdTabN (b:Nat) (w:World) (t:TabD) (cs:List Value):Prop:=∃ v,cs=(t.cells v).toList∧Owns w b 93 2 enRw v t.rows
def fdStaN (b:Nat) (w:World) (s:StaD) (cs:List Value):Prop:=∃ v,cs=(s.cells v).toList∧Owns w b 9 1 enTx v s.names
def fdDbN (b:Nat) (w:World) (d:DbD) (cs:List Value):Prop:=∃ u v z,cs=(d.cells u v z).toList ∧
 Owns w b 9 1 enTx u d.sta.names∧OwnRd w b 72 (fdMsgN b) 8 v d.msgs∧OwnRd w b 76 (fdTabN b) 6 z d.tabs
abbrev fdSig:=fdSigN 0
abbrev fdMsg:=fdMsgN 0
abbrev fdTab:=fdTabN 0
abbrev fdSta:=fdStaN 0
abbrev fdDb:=fdDbN 0
def fdNode (w:World) (n:NodeD) (cs:List Value):Prop:=match n with
 | .ver v=>cs=[.iface 31 (.agg v.cells)]
 | .sta s=>∃ C:Array Value,cs=[.iface 34 (.agg C)]∧fdSta w s C.toList
 | .msg m=>∃ C:Array Value,cs=[.iface 72 (.agg C)]∧fdMsg w m C.toList
 | .tab t=>∃ C:Array Value,cs=[.iface 76 (.agg C)]∧fdTab w t C.toList
theorem SlRd.weak {α:Type} {rd rd':World→α→List Value→Prop} {w:World} {size:Nat} {a:Option Addr} {cap:Nat} {xs:List α} (h:SlRd w rd size a cap xs) (hm:∀ x cs,rd w x cs→rd' w x cs):SlRd w rd' size a cap xs:=by
 obtain⟨rows,h1,h2⟩:=h;exact⟨rows,h1,h2.mono fun x r hr=>hm x _ hr⟩
theorem fd_sig {w:World} {x:SigX} {cs:List Value} (h:fdSig w x cs):rdSig w x cs:=by
 obtain⟨v,rfl,ho⟩:=h;obtain⟨a,cap,rfl,hs⟩:=ho.shape;exact⟨a,cap,rfl,hs⟩
theorem fd_msg {w:World} {m:MsgD} {cs:List Value} (h:fdMsg w m cs):rdMsg w m cs:=by
 obtain⟨v,rfl,ho⟩:=h;obtain⟨a,cap,rfl,hs⟩:=ho.shape;exact⟨a,cap,rfl,hs.weak fun _ _=>fd_sig⟩
theorem fd_tab {w:World} {t:TabD} {cs:List Value} (h:fdTab w t cs):rdTab w t cs:=by
 obtain⟨v,rfl,ho⟩:=h;obtain⟨a,cap,rfl,hs⟩:=ho.shape;exact⟨a,cap,rfl,hs⟩
theorem fd_sta {w:World} {s:StaD} {cs:List Value} (h:fdSta w s cs):rdSta w s cs:=by
 obtain⟨v,rfl,ho⟩:=h;obtain⟨a,cap,rfl,hs⟩:=ho.shape;exact⟨a,cap,rfl,hs⟩
theorem fd_node {w:World} {n:NodeD} {cs:List Value} (h:fdNode w n cs):rdNode w n cs:=by
 cases n with
 | ver v=>exact h
 | sta s=>obtain⟨C,h1,h2⟩:=h;exact⟨C,h1,fd_sta h2⟩
 | msg m=>obtain⟨C,h1,h2⟩:=h;exact⟨C,h1,fd_msg h2⟩
 | tab t=>obtain⟨C,h1,h2⟩:=h;exact⟨C,h1,fd_tab h2⟩
theorem fd_db {w:World} {d:DbD} {cs:List Value} (h:fdDb w d cs):rdDb w d cs:=by
 obtain⟨u,v,z,rfl,h1,h2,h3⟩:=h;obtain⟨a,cap,rfl,hs⟩:=h1.shape;obtain⟨b,cb,rfl,hm⟩:=h2.shape;obtain⟨c,cc,rfl,ht⟩:=h3.shape;exact⟨a,cap,b,cb,c,cc,rfl,hs,hm.weak fun _ _=>fd_msg,ht.weak fun _ _=>fd_tab⟩
theorem last_rdSig:Lasts rdSig:=fun w w' x cs ⟨a,cap,h1,h2⟩ hb=>⟨a,cap,h1,h2.keep hb lrf⟩
theorem last_rdMsg:Lasts rdMsg:=fun w w' x cs ⟨a,cap,h1,h2⟩ hb=>⟨a,cap,h1,h2.keep last_rdSig hb⟩
theorem last_rdTab:Lasts rdTab:=fun w w' x cs ⟨a,cap,h1,h2⟩ hb=>⟨a,cap,h1,h2.keep hb lrf⟩
theorem last_rdSta:Lasts rdSta:=fun w w' x cs ⟨a,cap,h1,h2⟩ hb=>⟨a,cap,h1,h2.keep hb lrf⟩
theorem last_rdNode:Lasts rdNode:=fun w w' x cs h hb=>by
 cases x with
 | ver v=>exact h
 | sta s=>obtain⟨C,h1,h2⟩:=h;exact⟨C,h1,last_rdSta _ _ _ _ h2 hb⟩
 | msg m=>obtain⟨C,h1,h2⟩:=h;exact⟨C,h1,last_rdMsg _ _ _ _ h2 hb⟩
 | tab t=>obtain⟨C,h1,h2⟩:=h;exact⟨C,h1,last_rdTab _ _ _ _ h2 hb⟩
theorem last_rdDb:Lasts rdDb:=fun w w' x cs ⟨a,cap,b,cb,c,cc,h1,h2,h3,h4⟩ hb=>⟨a,cap,b,cb,c,cc,h1,h2.keep hb lrf,h3.keep last_rdMsg hb,h4.keep last_rdTab hb⟩
theorem last_fdSigN (b:Nat):Lasts (fdSigN b):=fun w w' x cs ⟨v,h1,h2⟩ hb=>⟨v,h1,h2.keep hb lrf⟩
theorem last_fdSig:Lasts fdSig:=last_fdSigN 0
theorem last_fdMsgN (b:Nat):Lasts (fdMsgN b):=fun w w' x cs ⟨v,h1,h2⟩ hb=>⟨v,h1,h2.keep (last_fdSigN b) hb⟩
theorem last_fdMsg:Lasts fdMsg:=last_fdMsgN 0
theorem last_fdTabN (b:Nat):Lasts (fdTabN b):=fun w w' x cs ⟨v,h1,h2⟩ hb=>⟨v,h1,h2.keep hb lrf⟩
theorem last_fdTab:Lasts fdTab:=last_fdTabN 0
theorem last_fdDbN (b:Nat):Lasts (fdDbN b):=fun w w' x cs ⟨u,v,z,h1,h2,h3,h4⟩ hb=>⟨u,v,z,h1,h2.keep hb lrf,h3.keep (last_fdMsgN b) hb,h4.keep (last_fdTabN b) hb⟩
theorem last_fdDb:Lasts fdDb:=last_fdDbN 0
theorem Owns.apt {α:Type} {w w':World} {base:Nat} {e' e:TypeId} {size:Nat} {en:α→List Value} {v:Value} {xs:List α} (h:Owns w base e' size en v xs) (he:e'≠e) {k:Nat} {C:Array Value} {fz:Nat×Nat} (hk:w.heap[k]? = some (.cells C e fz))
  (hb:∀ b,b < w.heap.size→b≠k→w'.heap[b]? = w.heap[b]?):Owns w' base e' size en v xs:=by
 refine h.ofBlock fun g hg=>hb g (h.lt g hg).2 fun e0=>?_
 subst e0;obtain⟨c,f,h3⟩:=Lib.ownsRow_kind h g hg;rw[h3]at hk;cases hk
 exact he rfl
theorem OwnRd.apt {α:Type} {rd:World→α→List Value→Prop} {w w':World} {base:Nat} {e' e:TypeId} {size:Nat} {v:Value} {xs:List α} (h:OwnRd w base e' rd size v xs) (he:e'≠e) (ha:Apt rd e) {k:Nat} {C:Array Value} {fz:Nat×Nat} (hk:w.heap[k]? = some (.cells C e fz))
  (hz:w.heap.size≤w'.heap.size) (hb:∀ b,b < w.heap.size→b≠k→w'.heap[b]? = w.heap[b]?):OwnRd w' base e' rd size v xs:=by
 obtain⟨rows,h1,h2⟩:=h;exact⟨rows,h1.apt he hk hb,h2.mono fun x r hr=>ha _ _ _ _ _ _ _ hr hk hz hb⟩
theorem apt_fdSigN (b:Nat) {e:TypeId} (he:9≠e):Apt (fdSigN b) e:=fun w w' x cs k C fz ⟨v,h1,h2⟩ hk _ hb=>⟨v,h1,h2.apt he hk hb⟩
theorem apt_fdSig {e:TypeId} (he:9≠e):Apt fdSig e:=apt_fdSigN 0 he
theorem apt_fdMsgN (b:Nat) {e:TypeId} (he:9≠e) (he2:89≠e):Apt (fdMsgN b) e:=fun w w' x cs k C fz ⟨v,h1,h2⟩ hk hz hb=>⟨v,h1,h2.apt he2 (apt_fdSigN b he) hk hz hb⟩
theorem apt_fdMsg {e:TypeId} (he:9≠e) (he2:89≠e):Apt fdMsg e:=apt_fdMsgN 0 he he2
theorem apt_fdTabN (b:Nat) {e:TypeId} (he:93≠e):Apt (fdTabN b) e:=fun w w' x cs k C fz ⟨v,h1,h2⟩ hk _ hb=>⟨v,h1,h2.apt he hk hb⟩
theorem apt_fdTab {e:TypeId} (he:93≠e):Apt fdTab e:=apt_fdTabN 0 he
theorem rows_ty:SlTy prog 74 93 2 24:=SlTy.mk' (.agg #[.int .i64 0,.string ⟨#[]⟩]) underlying74 (by kernel_rfl) rfl (by decide) (by decide)
theorem sigs_ty:SlTy prog 70 89 19 176:=SlTy.mk' (.agg zeroSig) underlying70 (by kernel_rfl) rfl (by decide) (by decide)
theorem wpList_clone {α:Type} {en:α→List Value} {P:Program} {w:World} {ops:Array Oper} {rest:List Oper} {o:Oper} {a:Act} {Q:Exit→Act→World→Prop} {s x:Operand} {t e:TypeId} {size bytes:Nat} (T:SlTy P t e size bytes)
  (xs:List α) (hen:∀ y,(en y).length=size) (hone:∀ y∈xs,∀ u∈en y,u.oneCell' = true) {ad:Option Addr} {cap:Nat} (hs:SlOf w en size ad cap xs) (hbound:xs.length*bytes≤140737488355328) (hne:ad≠none)
  (h:∀ v' w1,Owns w1 w.heap.size e size en v' xs→Below w.heap.size w w1→wpList P ops Q rest (a.put o.dst v') w1)
  (hgd:o.guard=none:=by rfl) (ho:o.op=.call { callee:=.builtin .append,args:=#[s,x],argTypes:=#[t,t] }:=by rfl)
  (hs0:a.eval s=.slice (some ⟨w.heap.size,0,none⟩) 0 0:=by rfl) (hx:a.eval x=.slice ad xs.length cap:=by rfl):wpList P ops Q (o::rest) a (w.alloc (.cells #[] e)):=by
 obtain⟨hu,⟨i,z,hi,hz,h1,h2,h3⟩,hp,hbp⟩:=T;obtain⟨p,rfl⟩:∃ p,ad=some p:=by cases ad with|none=>exact absurd rfl hne|some p=>exact⟨p,rfl⟩
 have hn:xs.length≤maxLen:=by
  have:xs.length*1≤xs.length*bytes:=Nat.mul_le_mul_left _ hbp;unfold maxLen;omega
 have hnews:∀ j u,(xs.flatMap en)[j]? = some u→(w.alloc (.cells #[] e)).cell? (p.add j)=some u:=by
  intro j u hu;have hj:j < (xs.flatMap en).length:=(List.getElem?_eq_some_iff.1 hu).1;obtain⟨b,off,e1,e2⟩:=Sl.at' (SlOf.alloc hs (.cells #[] e)) j hj;cases e1
  rw[Addr.add_lit,e2];exact hu
 have hone':∀ u∈xs.flatMap en,u.oneCell' = true:=fun u hu=>by
  obtain⟨y,hm,hy⟩:=List.mem_flatMap.1 hu;exact hone y hm u hy
 refine wpList_append_own _ hgd s x t ho w.heap.size e i z size bytes hu hi hz h1 h2 h3 hp _ 0 [] hs0 (World.ownsRow_made w #[] 0 lrf (Nat.zero_le _) (by simp)) p xs.length cap (xs.flatMap en) hx (by rw[flatMap_length hen]) hnews hone' (by omega) (by rw[Nat.zero_add];exact hbound) (by simp) ?_;intro v' w' hown hg _;refine h v' w' ?_ (((Below.refl _ w).alloc lrf _).grown hg (by simp) (fun k hk=>by simp[Value.ownBlock]at hk;omega));unfold Owns
 simpa using hown
theorem enTx_one (y:List UInt8):∀ u∈enTx y,u.oneCell' = true:=by simp[enTx,Value.oneCell']
theorem enRw_one (y:Int×List UInt8):∀ u∈enRw y,u.oneCell' = true:=by simp[enRw,Value.oneCell']
theorem cloneTx_any (l:List (List UInt8)) (n:Nat) (hn:n=l.length) (a:Option Addr) (cap:Nat) (w:World) (hs:SlX w a cap l) (hr:l.length*16≤140737488355328) :
  Calls prog 48 #[.slice a n cap] w fun e w'=>∃ v,e=.returned v∧Owns w' w.heap.size 9 1 enTx v l∧Below w.heap.size w w':=by
 subst hn;have hq:=fun (w:World) (a:Option Addr) (n c:Nat)=>Lib.run_eql_slice_nil (P:=prog) w 32 _ a n c 0 0 underlying32
 cases a with
 | none=>
  have h0:l=[]:=List.length_eq_zero_iff.1 (by have:=Sl.nil hs rfl;have:=Sl.le hs;omega);subst h0;go_enter func48,ntmps48
  go_wp2_with fail;go_ret;exact⟨_,rfl,Owns.nil _ _ _ _ _,Below.refl _ _⟩
 | some p=>
  go_enter func48,ntmps48
  go_wp2_with (at_builtin;go_loud (refine wpList_clone txs_ty l enTx_len (fun y _=>enTx_one y) hs hr (by simp) ?_))
  intro v' w1 ho hb;go_wp2_with fail;go_ret;exact⟨_,rfl,ho,hb⟩
theorem cloneRw_any (l:List (Int×List UInt8)) (n:Nat) (hn:n=l.length) (a:Option Addr) (cap:Nat) (w:World) (hs:SlOf w enRw 2 a cap l) (hr:l.length*24≤140737488355328) :
  Calls prog 50 #[.slice a n cap] w fun e w'=>∃ v,e=.returned v∧Owns w' w.heap.size 93 2 enRw v l∧Below w.heap.size w w':=by
 subst hn;have hq:=fun (w:World) (a:Option Addr) (n c:Nat)=>Lib.run_eql_slice_nil (P:=prog) w 74 _ a n c 0 0 underlying74
 cases a with
 | none=>
  have h0:l=[]:=List.length_eq_zero_iff.1 (by have:=Sl.nil hs rfl;have:=Sl.le hs;omega);subst h0;go_enter func50,ntmps50
  go_wp2_with fail;go_ret;exact⟨_,rfl,Owns.nil _ _ _ _ _,Below.refl _ _⟩
 | some p=>
  go_enter func50,ntmps50
  go_wp2_with (at_builtin;go_loud (refine wpList_clone rows_ty l enRw_len (fun y _=>enRw_one y) hs hr (by simp) ?_))
  intro v' w1 ho hb;go_wp2_with fail;go_ret;exact⟨_,rfl,ho,hb⟩
def OneR {n:Nat} (r:Row n):Prop:=∀ u∈r.en,u.oneCell' = true
theorem cloneSg_any (l:List (Row 19)) (h1:∀ r:Row 19,r∈l→OneR r) (n:Nat) (hn:n=l.length) (a:Option Addr) (cap:Nat) (w:World) (hs:SlOf w Row.en 19 a cap l) (hr:l.length*176≤140737488355328) :
  Calls prog 49 #[.slice a n cap] w fun e w'=>∃ v,e=.returned v∧Owns w' w.heap.size 89 19 Row.en v l∧Below w.heap.size w w':=by
 subst hn;have hq:=fun (w:World) (a:Option Addr) (n c:Nat)=>Lib.run_eql_slice_nil (P:=prog) w 70 _ a n c 0 0 underlying70
 cases a with
 | none=>
  have h0:l=[]:=List.length_eq_zero_iff.1 (by have:=Sl.nil hs rfl;have:=Sl.le hs;omega);subst h0;go_enter func49,ntmps49
  go_wp2_with fail;go_ret;exact⟨_,rfl,Owns.nil _ _ _ _ _,Below.refl _ _⟩
 | some p=>
  go_enter func49,ntmps49
  go_wp2_with (at_builtin;go_loud (refine wpList_clone sigs_ty l Row.en_len h1 hs hr (by simp) ?_))
  intro v' w1 ho hb;go_wp2_with fail;go_ret;exact⟨_,rfl,ho,hb⟩
theorem copyTx_any (l:List (List UInt8)) (n:Nat) (hn:n=l.length) (a:Option Addr) (cap:Nat) (w:World) (hs:SlX w a cap l) (hr:l.length*16≤140737488351232) :
  Calls prog 96 #[.slice a n cap] w fun e w'=>∃ v,e=.returned v∧Owns w' w.heap.size 9 1 enTx v l∧Below w.heap.size w w':=by
 subst hn;go_enter func96,ntmps96
 go_wp2_with fail;go_loopw [3,4] (fun v i wr=>∃ k:Nat,k≤l.length∧i=.int .i64 k∧Owns wr w.heap.size 9 1 enTx v (l.take k)∧Below w.heap.size w wr) (fun _ i _=>l.length - (intOf i).toNat)
 case atStart=>exact⟨0,Nat.zero_le _,rfl,Owns.nil _ _ _ _ _,Below.refl _ _⟩
 case round=>
  obtain⟨k,hk,rfl,hown,hbel⟩:=hrel;by_cases hlt:k < l.length
  ·obtain⟨b,o,rfl,hb,hc0⟩:=SlX.at (hs.keep hbel lrf) hlt;go_wp2_with (at_builtin;go_loud (refine wpList_append_elem txs_ty (l.take k) l[k] hown hbel lrf (by simp;omega) ?_ (hone:=by simp[enTx,Value.oneCell'])))
   intro v' w1 hown1 hb1;clear hown hbel hc0;go_wp2_with fail;go_roundw;case rel=>exact⟨k+1,by omega,by go_num,hown1,hb1⟩
   case measure=>simp[intOf];omega
  ·have:k=l.length:=by omega
   subst this;rw[List.take_length]at hown;obtain⟨a2,c2,rfl,-⟩:=hown.shape;go_wp2_with fail;go_ret;exact⟨_,rfl,hown,hbel⟩
theorem SlRw.at {w:World} {a:Option Addr} {cap:Nat} {l:List (Int×List UInt8)} (h:SlOf w enRw 2 a cap l) {k:Nat} (hk:k < l.length) :
  ∃ b o,a=some ⟨b,o,none⟩∧b < w.heap.size∧w.cell? ⟨b,o+k*2,none⟩=some (.int .i64 l[k].1)∧w.cell? ⟨b,o+k*2+1,none⟩=some (.string ⟨l[k].2.toArray⟩):=by
 obtain⟨b,o,rfl,hb,hc⟩:=SlOf.cells h enRw_len (by decide) hk;exact⟨b,o,rfl,hb,hc 0 (by decide),by rw[Nat.add_assoc];exact hc 1 (by decide)⟩
theorem copyRw_any (l:List (Int×List UInt8)) (n:Nat) (hn:n=l.length) (a:Option Addr) (cap:Nat) (w:World) (hs:SlOf w enRw 2 a cap l) (hr:l.length*24≤140737488351232) :
  Calls prog 122 #[.slice a n cap] w fun e w'=>∃ v,e=.returned v∧Owns w' w.heap.size 93 2 enRw v l∧Below w.heap.size w w':=by
 subst hn;go_enter func122,ntmps122
 go_wp2_with fail;go_loopw [3,4] (fun v i wr=>∃ k:Nat,k≤l.length∧i=.int .i64 k∧Owns wr w.heap.size 93 2 enRw v (l.take k)∧Below w.heap.size w wr) (fun _ i _=>l.length - (intOf i).toNat)
 case atStart=>exact⟨0,Nat.zero_le _,rfl,Owns.nil _ _ _ _ _,Below.refl _ _⟩
 case round=>
  obtain⟨k,hk,rfl,hown,hbel⟩:=hrel;by_cases hlt:k < l.length
  ·obtain⟨b,o,rfl,hb,hc0,hc1⟩:=SlRw.at (hs.keep hbel lrf) hlt;go_wp2_with (at_builtin;go_loud (refine wpList_append_elem rows_ty (l.take k) l[k] hown hbel lrf (by simp;omega) ?_ (hone:=by simp[enRw,Value.oneCell'])))
   intro v' w1 hown1 hb1;clear hown hbel hc0 hc1;go_wp2_with fail;go_roundw;case rel=>exact⟨k+1,by omega,by go_num,hown1,hb1⟩
   case measure=>simp[intOf];omega
  ·have:k=l.length:=by omega
   subst this;rw[List.take_length]at hown;obtain⟨a2,c2,rfl,-⟩:=hown.shape;go_wp2_with fail;go_ret;exact⟨_,rfl,hown,hbel⟩
set_option maxRecDepth 100000 in theorem copySig_anyN (x : SigX) (w : World) (cs : Array Value) (hx : rdSig w x cs.toList) (hr : x.rs.length * 16 ≤ 140737488351232) (B : Nat) (hB : B ≤ w.heap.size) :
  Calls prog 148 #[.agg cs] w fun e w'=>∃ C:Array Value,e=.returned (.agg C)∧(fdSigN B) w' x C.toList∧Below w.heap.size w w':=by
 obtain⟨d,l⟩:=x;obtain⟨a,cap,ecs,hs⟩:=hx;obtain rfl:cs=d.cells (.slice a l.length cap):=Array.toList_inj.1 ecs;clear ecs;simp only at hs hr ⊢;obtain⟨n,hn⟩:∃ n,n=l.length:=⟨_,rfl⟩
 rw[← hn];have c:=fun W hW=>copyTx_any l n hn a cap W hW hr
 clear hn hr;have e0:=SigD.cells_size d (.slice a n cap);have e1:=SigD.cells_one d a n cap;have e2:=SigD.cells_to d (.slice a n cap);have ES:=Qh (SigD.cells_set d (.slice a n cap));have EO:=Qh (SigD.cells_one d);have EZ:=Qh (SigD.cells_size d);have e3:∀ h,(d.cells (.slice a n cap))[18]'h=.slice a n cap:=fun _=>rfl
 generalize d.cells (.slice a n cap)=C at *;obtain⟨zb,-,hbz⟩:=box2 w C zeroSig 89 89;have hu:=underlying89;have hb3:Below w.heap.size w (((w.alloc (.cells C 89)).alloc (.cells zeroSig 89)).alloc (.cells C 89)):=hbz.2.alloc (by simp;omega) _;go_enter func148,ntmps148
 go_wp2_with (first|(refine wpList_loadS zb 89 (.tmp 1) hu (by rw[e0];exact sig_size) ?_)|(refine wpList_newS (Z:=zeroSig) (cs:=C) 89 (.tmp 3) (.tmp 4) (by rw[e0];exact sig_zero) (by rw[e0];rfl) e1 ?_))
 with_reducible refine(c _ (hs.keep hb3 lrf)).mono ?_
 rintro e w1 ⟨v,rfl,ho,hb⟩;obtain⟨a2,c2,rfl,-⟩:=ho.shape;have hb4:=bstep hb3 hb lrf;have t3:=((Blk.new _ C 89).keep hb lrf)
 have t2:=(((Blk.new _ zeroSig 89).alloc (.cells C 89)).keep hb lrf)
 simp only[World.size_alloc]at t3 t2;have T3:=Qh ((t3.put 18 (.slice a2 l.length c2)));have T2:=Qh (t2.other (a:=⟨w.heap.size+1+1,18,none⟩) (show w.heap.size+1+1≠w.heap.size+1 by omega) (.slice a2 l.length c2));rw[ES.out]at T3;have f0:=t3.cell 18 _ e2;have f1:=t3.free 18;have q0:=EZ.out (.slice a2 l.length c2);have q1:=EO.out a2 l.length c2;have HO:=Qh ho;have HB4:=Qh hb4;have HSZ:=Qh hb.size;generalize hD:d.cells (.slice a2 l.length c2)=D at *;have HD:=Qh hD;clear hD;clear t3 t2 hb hb3 hb4 c zb e1 hs ho;go_wp2_with (first|(refine wpList_loadS T3.out 89 (.tmp 3) hu (by rw[q0];exact sig_size) ?_)|(refine wpList_storeS T2.out 89 (.tmp 2) (.tmp 9) (by rw[q0];exact sig_size) (by rw[q0];rfl) q1 ?_))
 have hrun:=run_loadS (T2.out.row D) 89 _ hu rfl (by rw[q0];exact sig_size);have hb5:=HB4.out;have hz:w.heap.size+1+1+1≤w1.heap.size:=Nat.le_trans (by simp) HSZ.out;refine bodyPost_ret (v:=.agg D) (by simp[results,results148,Act.put,asAddr,hrun]) rfl ⟨D,rfl,⟨_,by rw[← HD.out],?_⟩,?_⟩
 ·refine Owns.ofBlock (HO.out.fromBase (Nat.le_trans hB (by simp only[World.size_alloc];omega))) fun k hk=>?_
  have hk2:w.heap.size+1+1+1≤k:=Nat.le_trans (by simp) (HO.out.lt k hk).1;rw[heap_setRow_other _ _ _ _ (show k≠w.heap.size+1 by omega)];exact Below.heap_setCell _ _ _ _ (by show k≠w.heap.size+2;omega)
 ·exact below_row (hb5.setCell (by show w.heap.size≤w.heap.size+2;omega) _) (by omega) _
theorem fold_setL:∀ (l:List Value) (k:Nat) (Z:Array Value),k+l.length≤Z.size →
  ((l.zipIdx k).foldl (fun (cs:Array Value) x=>cs.setIfInBounds x.2 x.1) Z).toList=Z.toList.take k++l++Z.toList.drop (k+l.length)
 | [],k,Z,h=>by simp
 | v::l,k,Z,h=>by
  simp only[List.length_cons]at h;have hk:k < Z.toList.length:=(by rw[Array.length_toList];omega);rw[List.zipIdx_cons,List.foldl_cons,fold_setL l (k+1) (Z.setIfInBounds k v) (by rw[Array.size_setIfInBounds];omega)];rw[Array.toList_setIfInBounds,List.set_eq_take_append_cons_drop,if_pos hk];have e1:(Z.toList.take k).length=k:=(by rw[List.length_take];omega);have e2:List.take (k+1) (List.take k Z.toList++v::List.drop (k+1) Z.toList)=List.take k Z.toList++[v]:=by
   rw[List.take_append,e1,List.take_of_length_le (by rw[e1];omega)];simp
  have e3:List.drop (k+1+l.length) (List.take k Z.toList++v::List.drop (k+1) Z.toList)=List.drop (k+1+l.length) Z.toList:=by
   rw[List.drop_append,e1,List.drop_eq_nil_of_le (by rw[e1];omega),List.nil_append,show k+1+l.length - k=l.length+1 by omega,List.drop_succ_cons,List.drop_drop]
  rw[e2,e3];simp only[List.append_assoc,List.cons_append,List.nil_append,List.length_cons];rw[show k+1+l.length=k+(l.length+1)by omega]
theorem fold_set (Z C:Array Value) (n:Nat) (hC:C.size=n) (hZ:Z.size=n):Array.foldl (fun (cs:Array Value) x=>cs.setIfInBounds x.2 x.1) Z C.zipIdx 0 n=C:=by
 subst hC;have e:C.size=C.zipIdx.size:=(by simp);apply Array.ext';have h:=fold_setL C.toList 0 Z (by simp;omega);rw[e,← Array.foldl_toList,Array.toList_zipIdx,h];simp[hZ]
theorem fdSig_size {B:Nat} {w:World} {x:SigX} {cs:List Value} (h:(fdSigN B) w x cs):cs.length=19:=by
 obtain⟨v,rfl,_⟩:=h;rfl
theorem fdSig_one {B:Nat} {w:World} {x:SigX} {C:Array Value} (h:(fdSigN B) w x C.toList):C.all (·.oneCell')=true:=by
 obtain⟨v,e,ho⟩:=h;obtain⟨a,cap,rfl,_⟩:=ho.shape;rw[Array.toList_inj.1 e];exact SigD.cells_one _ _ _ _
set_option maxRecDepth 100000 in theorem copySigs_anyN (l : List SigX) (n : Nat) (hn : n = l.length) (a : Option Addr) (cap : Nat) (w : World) (hs : SlRd w rdSig 19 a cap l) (hr : l.length * 176 ≤ 140737488351232) (hr2 : ∀ x ∈ l, x.rs.length * 16 ≤ 140737488351232) (B : Nat) (hB : B ≤ w.heap.size) :
  Calls prog 121 #[.slice a n cap] w fun e w'=>∃ v,e=.returned v∧OwnRd w' w.heap.size 89 (fdSigN B) 19 v l∧Below w.heap.size w w':=by
 subst hn;have hu:=underlying89;go_enter func121,ntmps121
 go_wp2_with fail;go_loopw [3,4] (fun v i wr=>∃ k:Nat,k≤l.length∧i=.int .i64 k∧OwnRd wr w.heap.size 89 (fdSigN B) 19 v (l.take k)∧Below w.heap.size w wr) (fun _ i _=>l.length - (intOf i).toNat)
 case atStart=>exact⟨0,Nat.zero_le _,rfl,OwnRd.nil _ _ _ _ _,Below.refl _ _⟩
 case round=>
  obtain⟨k,hk,rfl,hown,hbel⟩:=hrel;by_cases hlt:k < l.length
  ·obtain⟨b,o,rfl,hb,cs,hcl,hrd,hrg⟩:=SlRd.at (hs.keep last_rdSig hbel) (by decide) hlt;have c:=copySig_anyN l[k] wr cs.toArray hrd (hr2 _ (List.getElem_mem hlt)) B (Nat.le_trans hB hbel.size);have hsz:(prog.info? 89).map (·.size)=some cs.length:=(by rw[hcl];exact sig_size);go_wp2_with (refine wpList_load_mid rfl 89 (.tmp 14) rfl b (o+k*19) rfl cs _ hrg hu rfl hsz ?_)
   (with_reducible refine c.mono ?_);rintro e w1 ⟨C,rfl,hfd,hb1⟩;have hC:C.size=19:=(by have:=fdSig_size hfd;rwa [Array.length_toList]at this);have hC1:=fdSig_one hfd;obtain⟨nb,-,hbn⟩:=box1 w1 C 89;have hfd2:=(last_fdSigN B) _ _ _ _ hfd hbn;have hown2:=(hown.keep (last_fdSigN B) hb1).keep (last_fdSigN B) hbn;have hbel2:=bstep (bstep hbel hb1 lrf) hbn lrf;have hfold:=fold_set zeroSig C 19 hC rfl;clear hown hbel hb1 hrg hrd hfd hbn c;go_wp2_with (first|(at_builtin;go_loud (refine wpList_append_rd (last_fdSigN B) sigs_ty (l.take k) l[k] hown2 hbel2 lrf (by simp;omega) hfd2 hC hC1 (apt_fdSigN B (by decide)) ?_ (hx:=by rw[World.size_alloc];rfl)))|(refine wpList_newS (Z:=zeroSig) (cs:=C) 89 (.tmp 5) (.tmp 16) (by rw[hC];exact sig_zero) (by rw[hC];rfl) hC1 ?_)|(refine wpList_loadS nb 89 (.tmp 5) hu (by rw[hC];exact sig_size) ?_))
   intro v' w3 hown3 hb3 hg3;clear hown2 hbel2 nb;go_wp2_with fail;go_roundw;case rel=>exact⟨k+1,by omega,by go_num,hown3,hb3⟩
   case measure=>simp[intOf];omega
  ·have:k=l.length:=by omega
   subst this;rw[List.take_length]at hown;obtain⟨a2,c2,rfl,-⟩:=hown.shape;go_wp2_with fail;go_ret;exact⟨_,rfl,hown,hbel⟩
theorem MsgD.cells_size (d:MsgD) (tv:Value):(d.cells tv).size=8:=rfl
theorem MsgD.cells_one (d:MsgD) (a:Option Addr) (n c:Nat):(d.cells (.slice a n c)).all (·.oneCell')=true:=by unfold MsgD.cells;simp[Value.oneCell']
theorem MsgD.cells_to (d:MsgD) (tv:Value):(d.cells tv)[7]? = some tv:=rfl
theorem MsgD.cells_set (d:MsgD) (tv v:Value):(d.cells tv).setIfInBounds 7 v=d.cells v:=rfl
abbrev zeroMsgD:Array Value:=#[.int .i64 0,.int .i64 0,.int .u32 0,.bool false,.string ⟨#[]⟩,.int .i64 0,.string ⟨#[]⟩,.slice none 0 0]
theorem msg_zero:(prog.info? 72).map (fun i=>(i.zero,i.size))=some (some (.agg zeroMsgD),8):=by kernel_rfl
theorem msg_size:(prog.info? 72).map (·.size)=some 8:=by kernel_rfl
theorem TabD.cells_size (d:TabD) (tv:Value):(d.cells tv).size=6:=rfl
theorem TabD.cells_one (d:TabD) (a:Option Addr) (n c:Nat):(d.cells (.slice a n c)).all (·.oneCell')=true:=by unfold TabD.cells;simp[Value.oneCell']
theorem TabD.cells_to (d:TabD) (tv:Value):(d.cells tv)[5]? = some tv:=rfl
theorem TabD.cells_set (d:TabD) (tv v:Value):(d.cells tv).setIfInBounds 5 v=d.cells v:=rfl
abbrev zeroTabD:Array Value:=#[.int .i64 0,.int .i64 0,.int .u32 0,.bool false,.string ⟨#[]⟩,.slice none 0 0]
theorem tab_zero:(prog.info? 76).map (fun i=>(i.zero,i.size))=some (some (.agg zeroTabD),6):=by kernel_rfl
theorem tab_size:(prog.info? 76).map (·.size)=some 6:=by kernel_rfl
theorem StaD.cells_size (d:StaD) (tv:Value):(d.cells tv).size=3:=rfl
theorem StaD.cells_one (d:StaD) (a:Option Addr) (n c:Nat):(d.cells (.slice a n c)).all (·.oneCell')=true:=by unfold StaD.cells;simp[Value.oneCell']
theorem StaD.cells_to (d:StaD) (tv:Value):(d.cells tv)[2]? = some tv:=rfl
theorem StaD.cells_set (d:StaD) (tv v:Value):(d.cells tv).setIfInBounds 2 v=d.cells v:=rfl
abbrev zeroStaD:Array Value:=#[.int .i64 0,.int .i64 0,.slice none 0 0]
theorem sta_zero:(prog.info? 34).map (fun i=>(i.zero,i.size))=some (some (.agg zeroStaD),3):=by kernel_rfl
theorem sta_size:(prog.info? 34).map (·.size)=some 3:=by kernel_rfl
set_option maxRecDepth 100000 in theorem copyMsg_anyN (x : MsgD) (w : World) (cs : Array Value) (hx : rdMsg w x cs.toList) (hr : x.sigs.length * 176 ≤ 140737488351232) (hr2 : ∀ s ∈ x.sigs, s.rs.length * 16 ≤ 140737488351232) (B : Nat) (hB : B ≤ w.heap.size) :
  Calls prog 94 #[.agg cs] w fun e w'=>∃ C:Array Value,e=.returned (.agg C)∧fdMsgN B w' x C.toList∧Below w.heap.size w w':=by
 obtain⟨a,cap,ecs,hs⟩:=hx;obtain rfl:cs=x.cells (.slice a x.sigs.length cap):=Array.toList_inj.1 ecs;clear ecs;have e0:=MsgD.cells_size x (.slice a x.sigs.length cap);have e1:=MsgD.cells_one x a x.sigs.length cap;have e2:=MsgD.cells_to x (.slice a x.sigs.length cap);have ES:=Qh (MsgD.cells_set x (.slice a x.sigs.length cap));have EO:=Qh (MsgD.cells_one x);have EZ:=Qh (MsgD.cells_size x);have e3:∀ h,(x.cells (.slice a x.sigs.length cap))[7]'h=.slice a x.sigs.length cap:=fun _=>rfl
 have c:=fun W hW hWB=>copySigs_anyN x.sigs x.sigs.length rfl a cap W hW hr hr2 B hWB
 generalize x.cells (.slice a x.sigs.length cap)=C at *;obtain⟨zb,-,hbz⟩:=box2 w C zeroMsgD 72 72;have hu:=underlying72;have hb3:Below w.heap.size w (((w.alloc (.cells C 72)).alloc (.cells zeroMsgD 72)).alloc (.cells C 72)):=hbz.2.alloc (by simp;omega) _;have HS3:=Qh (hs.keep last_rdSig hb3);clear hs;go_enter func94,ntmps94
 go_wp2_with (first|(refine wpList_loadS zb 72 (.tmp 1) hu (by rw[e0];exact msg_size) ?_)|(refine wpList_newS (Z:=zeroMsgD) (cs:=C) 72 (.tmp 3) (.tmp 4) (by rw[e0];exact msg_zero) (by rw[e0];rfl) e1 ?_))
 with_reducible refine(c _ HS3.out (Nat.le_trans hB (by simp only[World.size_alloc];omega))).mono ?_
 rintro e w1 ⟨v,rfl,ho,hb⟩;obtain⟨a2,c2,rfl,-⟩:=ho.shape;have hb4:=bstep hb3 hb lrf;have t3:=((Blk.new _ C 72).keep hb lrf)
 have t2:=(((Blk.new _ zeroMsgD 72).alloc (.cells C 72)).keep hb lrf)
 have HK2:=Qh ((hb.block (w.heap.size+1) (by simp)).trans (show _=some (.cells zeroMsgD 72)by rw[Below.heap_alloc _ _ _ (by simp)];simpa using heap_alloc_new (w.alloc (.cells C 72)) (.cells zeroMsgD 72)));have HK3:=Qh ((hb.block (w.heap.size+2) (by simp)).trans (show _=some (.cells C 72)by simpa using heap_alloc_new ((w.alloc (.cells C 72)).alloc (.cells zeroMsgD 72)) (.cells C 72)));simp only[World.size_alloc]at t3 t2;have T3:=Qh ((t3.put 7 (.slice a2 x.sigs.length c2)));have T2:=Qh (t2.other (a:=⟨w.heap.size+1+1,7,none⟩) (show w.heap.size+1+1≠w.heap.size+1 by omega) (.slice a2 x.sigs.length c2));rw[ES.out]at T3;have f0:=t3.cell 7 _ e2;have f1:=t3.free 7;have q0:=EZ.out (.slice a2 x.sigs.length c2);have q1:=EO.out a2 x.sigs.length c2;have HO:=Qh ho;have HB4:=Qh hb4;have HSZ:=Qh hb.size;generalize hD:x.cells (.slice a2 x.sigs.length c2)=D at *;have HD:=Qh hD;clear hD;clear t3 t2 hb hb3 hb4 c zb e1 ho;go_wp2_with (first|(refine wpList_loadS T3.out 72 (.tmp 3) hu (by rw[q0];exact msg_size) ?_)|(refine wpList_storeS T2.out 72 (.tmp 2) (.tmp 9) (by rw[q0];exact msg_size) (by rw[q0];rfl) q1 ?_))
 have hrun:=run_loadS (T2.out.row D) 72 _ hu rfl (by rw[q0];exact msg_size);have hb5:=HB4.out;have hz:w.heap.size+1+1+1≤w1.heap.size:=Nat.le_trans (by simp) HSZ.out;refine bodyPost_ret (v:=.agg D) (by simp[results,results94,Act.put,asAddr,hrun]) rfl ⟨D,rfl,⟨_,by rw[← HD.out],?_⟩,?_⟩
 ·have h1:=OwnRd.apt (w':=w1.setCell ⟨w.heap.size+2,7,none⟩ (.slice a2 x.sigs.length c2)) HO.out (by decide) (apt_fdSigN B (by decide)) HK3.out (by simp[World.setCell]) (fun b _ hne=>Below.heap_setCell _ _ _ _ hne);have hk2:(w1.setCell ⟨w.heap.size+2,7,none⟩ (.slice a2 x.sigs.length c2)).heap[w.heap.size+1]? = some (.cells zeroMsgD 72):=(Below.heap_setCell _ _ _ _ (by show w.heap.size+1≠w.heap.size+2;omega)).trans HK2.out;have h2:=OwnRd.apt (w':=(w1.setCell ⟨w.heap.size+2,7,none⟩ (.slice a2 x.sigs.length c2)).setRow (w.heap.size+1) D) h1 (by decide) (apt_fdSigN B (by decide)) hk2 (by simp[World.setRow]) (fun b _ hne=>heap_setRow_other _ _ _ _ hne);exact h2.fromBase (Nat.le_trans hB (by simp only[World.size_alloc];omega))
 ·exact below_row (hb5.setCell (by show w.heap.size≤w.heap.size+2;omega) _) (by omega) _
set_option maxRecDepth 100000 in theorem copyTab_anyN (x : TabD) (w : World) (cs : Array Value) (hx : rdTab w x cs.toList) (hr : x.rows.length * 24 ≤ 140737488351232) (B : Nat) (hB : B ≤ w.heap.size) :
  Calls prog 95 #[.agg cs] w fun e w'=>∃ C:Array Value,e=.returned (.agg C)∧fdTabN B w' x C.toList∧Below w.heap.size w w':=by
 obtain⟨a,cap,ecs,hs⟩:=hx;obtain rfl:cs=x.cells (.slice a x.rows.length cap):=Array.toList_inj.1 ecs;clear ecs;have e0:=TabD.cells_size x (.slice a x.rows.length cap);have e1:=TabD.cells_one x a x.rows.length cap;have e2:=TabD.cells_to x (.slice a x.rows.length cap);have ES:=Qh (TabD.cells_set x (.slice a x.rows.length cap));have EO:=Qh (TabD.cells_one x);have EZ:=Qh (TabD.cells_size x);have e3:∀ h,(x.cells (.slice a x.rows.length cap))[5]'h=.slice a x.rows.length cap:=fun _=>rfl
 have c:=fun W hW=>copyRw_any x.rows x.rows.length rfl a cap W hW hr
 generalize x.cells (.slice a x.rows.length cap)=C at *;obtain⟨zb,-,hbz⟩:=box2 w C zeroTabD 76 76;have hu:=underlying76;have hb3:Below w.heap.size w (((w.alloc (.cells C 76)).alloc (.cells zeroTabD 76)).alloc (.cells C 76)):=hbz.2.alloc (by simp;omega) _;have HS3:=Qh (hs.keep hb3 lrf);clear hs;go_enter func95,ntmps95
 go_wp2_with (first|(refine wpList_loadS zb 76 (.tmp 1) hu (by rw[e0];exact tab_size) ?_)|(refine wpList_newS (Z:=zeroTabD) (cs:=C) 76 (.tmp 3) (.tmp 4) (by rw[e0];exact tab_zero) (by rw[e0];rfl) e1 ?_))
 with_reducible refine(c _ HS3.out).mono ?_
 rintro e w1 ⟨v,rfl,ho,hb⟩;obtain⟨a2,c2,rfl,-⟩:=ho.shape;have hb4:=bstep hb3 hb lrf;have t3:=((Blk.new _ C 76).keep hb lrf)
 have t2:=(((Blk.new _ zeroTabD 76).alloc (.cells C 76)).keep hb lrf)
 have HK2:=Qh ((hb.block (w.heap.size+1) (by simp)).trans (show _=some (.cells zeroTabD 76)by rw[Below.heap_alloc _ _ _ (by simp)];simpa using heap_alloc_new (w.alloc (.cells C 76)) (.cells zeroTabD 76)));have HK3:=Qh ((hb.block (w.heap.size+2) (by simp)).trans (show _=some (.cells C 76)by simpa using heap_alloc_new ((w.alloc (.cells C 76)).alloc (.cells zeroTabD 76)) (.cells C 76)));simp only[World.size_alloc]at t3 t2;have T3:=Qh ((t3.put 5 (.slice a2 x.rows.length c2)));have T2:=Qh (t2.other (a:=⟨w.heap.size+1+1,5,none⟩) (show w.heap.size+1+1≠w.heap.size+1 by omega) (.slice a2 x.rows.length c2));rw[ES.out]at T3;have f0:=t3.cell 5 _ e2;have f1:=t3.free 5;have q0:=EZ.out (.slice a2 x.rows.length c2);have q1:=EO.out a2 x.rows.length c2;have HO:=Qh ho;have HB4:=Qh hb4;have HSZ:=Qh hb.size;generalize hD:x.cells (.slice a2 x.rows.length c2)=D at *;have HD:=Qh hD;clear hD;clear t3 t2 hb hb3 hb4 c zb e1 ho;go_wp2_with (first|(refine wpList_loadS T3.out 76 (.tmp 3) hu (by rw[q0];exact tab_size) ?_)|(refine wpList_storeS T2.out 76 (.tmp 2) (.tmp 9) (by rw[q0];exact tab_size) (by rw[q0];rfl) q1 ?_))
 have hrun:=run_loadS (T2.out.row D) 76 _ hu rfl (by rw[q0];exact tab_size);have hb5:=HB4.out;have hz:w.heap.size+1+1+1≤w1.heap.size:=Nat.le_trans (by simp) HSZ.out;refine bodyPost_ret (v:=.agg D) (by simp[results,results95,Act.put,asAddr,hrun]) rfl ⟨D,rfl,⟨_,by rw[← HD.out],?_⟩,?_⟩
 ·refine Owns.ofBlock (HO.out.fromBase (Nat.le_trans hB (by simp only[World.size_alloc];omega))) fun k hk=>?_
  have hk2:w.heap.size+1+1+1≤k:=Nat.le_trans (by simp) (HO.out.lt k hk).1;rw[heap_setRow_other _ _ _ _ (show k≠w.heap.size+1 by omega)];exact Below.heap_setCell _ _ _ _ (by show k≠w.heap.size+2;omega)
 ·exact below_row (hb5.setCell (by show w.heap.size≤w.heap.size+2;omega) _) (by omega) _
set_option maxRecDepth 100000 in theorem copySta_anyN (x : StaD) (w : World) (cs : Array Value) (hx : rdSta w x cs.toList) (hr : x.names.length * 16 ≤ 140737488351232) (B : Nat) (hB : B ≤ w.heap.size) :
  Calls prog 61 #[.agg cs] w fun e w'=>∃ C:Array Value,e=.returned (.agg C)∧fdStaN B w' x C.toList∧Below w.heap.size w w':=by
 obtain⟨a,cap,ecs,hs⟩:=hx;obtain rfl:cs=x.cells (.slice a x.names.length cap):=Array.toList_inj.1 ecs;clear ecs;have e0:=StaD.cells_size x (.slice a x.names.length cap);have e1:=StaD.cells_one x a x.names.length cap;have e2:=StaD.cells_to x (.slice a x.names.length cap);have ES:=Qh (StaD.cells_set x (.slice a x.names.length cap));have EO:=Qh (StaD.cells_one x);have EZ:=Qh (StaD.cells_size x);have e3:∀ h,(x.cells (.slice a x.names.length cap))[2]'h=.slice a x.names.length cap:=fun _=>rfl
 have c:=fun W hW=>copyTx_any x.names x.names.length rfl a cap W hW hr
 generalize x.cells (.slice a x.names.length cap)=C at *;obtain⟨zb,-,hbz⟩:=box2 w C zeroStaD 34 34;have hu:=underlying34;have hb3:Below w.heap.size w (((w.alloc (.cells C 34)).alloc (.cells zeroStaD 34)).alloc (.cells C 34)):=hbz.2.alloc (by simp;omega) _;have HS3:=Qh (hs.keep hb3 lrf);clear hs;go_enter func61,ntmps61
 go_wp2_with (first|(refine wpList_loadS zb 34 (.tmp 1) hu (by rw[e0];exact sta_size) ?_)|(refine wpList_newS (Z:=zeroStaD) (cs:=C) 34 (.tmp 3) (.tmp 4) (by rw[e0];exact sta_zero) (by rw[e0];rfl) e1 ?_))
 with_reducible refine(c _ HS3.out).mono ?_
 rintro e w1 ⟨v,rfl,ho,hb⟩;obtain⟨a2,c2,rfl,-⟩:=ho.shape;have hb4:=bstep hb3 hb lrf;have t3:=((Blk.new _ C 34).keep hb lrf)
 have t2:=(((Blk.new _ zeroStaD 34).alloc (.cells C 34)).keep hb lrf)
 have HK2:=Qh ((hb.block (w.heap.size+1) (by simp)).trans (show _=some (.cells zeroStaD 34)by rw[Below.heap_alloc _ _ _ (by simp)];simpa using heap_alloc_new (w.alloc (.cells C 34)) (.cells zeroStaD 34)));have HK3:=Qh ((hb.block (w.heap.size+2) (by simp)).trans (show _=some (.cells C 34)by simpa using heap_alloc_new ((w.alloc (.cells C 34)).alloc (.cells zeroStaD 34)) (.cells C 34)));simp only[World.size_alloc]at t3 t2;have T3:=Qh ((t3.put 2 (.slice a2 x.names.length c2)));have T2:=Qh (t2.other (a:=⟨w.heap.size+1+1,2,none⟩) (show w.heap.size+1+1≠w.heap.size+1 by omega) (.slice a2 x.names.length c2));rw[ES.out]at T3;have f0:=t3.cell 2 _ e2;have f1:=t3.free 2;have q0:=EZ.out (.slice a2 x.names.length c2);have q1:=EO.out a2 x.names.length c2;have HO:=Qh ho;have HB4:=Qh hb4;have HSZ:=Qh hb.size;generalize hD:x.cells (.slice a2 x.names.length c2)=D at *;have HD:=Qh hD;clear hD;clear t3 t2 hb hb3 hb4 c zb e1 ho;go_wp2_with (first|(refine wpList_loadS T3.out 34 (.tmp 3) hu (by rw[q0];exact sta_size) ?_)|(refine wpList_storeS T2.out 34 (.tmp 2) (.tmp 9) (by rw[q0];exact sta_size) (by rw[q0];rfl) q1 ?_))
 have hrun:=run_loadS (T2.out.row D) 34 _ hu rfl (by rw[q0];exact sta_size);have hb5:=HB4.out;have hz:w.heap.size+1+1+1≤w1.heap.size:=Nat.le_trans (by simp) HSZ.out;refine bodyPost_ret (v:=.agg D) (by simp[results,results61,Act.put,asAddr,hrun]) rfl ⟨D,rfl,⟨_,by rw[← HD.out],?_⟩,?_⟩
 ·refine Owns.ofBlock (HO.out.fromBase (Nat.le_trans hB (by simp only[World.size_alloc];omega))) fun k hk=>?_
  have hk2:w.heap.size+1+1+1≤k:=Nat.le_trans (by simp) (HO.out.lt k hk).1;rw[heap_setRow_other _ _ _ _ (show k≠w.heap.size+1 by omega)];exact Below.heap_setCell _ _ _ _ (by show k≠w.heap.size+2;omega)
 ·exact below_row (hb5.setCell (by show w.heap.size≤w.heap.size+2;omega) _) (by omega) _
theorem fdMsg_size {B:Nat} {w:World} {x:MsgD} {cs:List Value} (h:fdMsgN B w x cs):cs.length=8:=by
 obtain⟨v,rfl,_⟩:=h;rfl
theorem fdMsg_one {B:Nat} {w:World} {x:MsgD} {C:Array Value} (h:fdMsgN B w x C.toList):C.all (·.oneCell')=true:=by
 obtain⟨v,e,ho⟩:=h;obtain⟨a,cap,rfl,_⟩:=ho.shape;rw[Array.toList_inj.1 e];exact MsgD.cells_one _ _ _ _
theorem msgs_ty:SlTy prog 35 72 8 88:=SlTy.mk' (.agg zeroMsgD) underlying35 (by kernel_rfl) rfl (by decide) (by decide)
set_option maxRecDepth 100000 in theorem copyMsgs_anyN (l : List MsgD) (n : Nat) (hn : n = l.length) (a : Option Addr) (cap : Nat) (w : World) (hs : SlRd w rdMsg 8 a cap l) (hr : l.length * 88 ≤ 140737488351232) (hr2 : ∀ x ∈ l, x.sigs.length * 176 ≤ 140737488351232 ∧ ∀ s ∈ x.sigs, s.rs.length * 16 ≤ 140737488351232) (B : Nat) (hB : B ≤ w.heap.size) :
  Calls prog 59 #[.slice a n cap] w fun e w'=>∃ v,e=.returned v∧OwnRd w' w.heap.size 72 (fdMsgN B) 8 v l∧Below w.heap.size w w':=by
 subst hn;have hu:=underlying72;go_enter func59,ntmps59
 go_wp2_with fail;go_loopw [3,4] (fun v i wr=>∃ k:Nat,k≤l.length∧i=.int .i64 k∧OwnRd wr w.heap.size 72 (fdMsgN B) 8 v (l.take k)∧Below w.heap.size w wr) (fun _ i _=>l.length - (intOf i).toNat)
 case atStart=>exact⟨0,Nat.zero_le _,rfl,OwnRd.nil _ _ _ _ _,Below.refl _ _⟩
 case round=>
  obtain⟨k,hk,rfl,hown,hbel⟩:=hrel;by_cases hlt:k < l.length
  ·obtain⟨b,o,rfl,hb,cs,hcl,hrd,hrg⟩:=SlRd.at (hs.keep last_rdMsg hbel) (by decide) hlt;have c:=copyMsg_anyN l[k] wr cs.toArray hrd (hr2 _ (List.getElem_mem hlt)).1 (hr2 _ (List.getElem_mem hlt)).2 B (Nat.le_trans hB hbel.size);have hsz:(prog.info? 72).map (·.size)=some cs.length:=(by rw[hcl];exact msg_size);go_wp2_with (refine wpList_load_mid rfl 72 (.tmp 14) rfl b (o+k*8) rfl cs _ hrg hu rfl hsz ?_)
   (with_reducible refine c.mono ?_);rintro e w1 ⟨C,rfl,hfd,hb1⟩;have hC:C.size=8:=(by have:=fdMsg_size hfd;rwa [Array.length_toList]at this);have hC1:=fdMsg_one hfd;obtain⟨nb,-,hbn⟩:=box1 w1 C 72;have hfd2:=(last_fdMsgN B) _ _ _ _ hfd hbn;have hown2:=(hown.keep (last_fdMsgN B) hb1).keep (last_fdMsgN B) hbn;have hbel2:=bstep (bstep hbel hb1 lrf) hbn lrf;have hfold:=fold_set zeroMsgD C 8 hC rfl;clear hown hbel hb1 hrg hrd hfd hbn c;go_wp2_with (first|(at_builtin;go_loud (refine wpList_append_rd (last_fdMsgN B) msgs_ty (l.take k) l[k] hown2 hbel2 lrf (by simp;omega) hfd2 hC hC1 (apt_fdMsgN B (by decide) (by decide)) ?_ (hx:=by rw[World.size_alloc];rfl)))|(refine wpList_newS (Z:=zeroMsgD) (cs:=C) 72 (.tmp 5) (.tmp 16) (by rw[hC];exact msg_zero) (by rw[hC];rfl) hC1 ?_)|(refine wpList_loadS nb 72 (.tmp 5) hu (by rw[hC];exact msg_size) ?_))
   intro v' w3 hown3 hb3 hg3;clear hown2 hbel2 nb;go_wp2_with fail;go_roundw;case rel=>exact⟨k+1,by omega,by go_num,hown3,hb3⟩
   case measure=>simp[intOf];omega
  ·have:k=l.length:=by omega
   subst this;rw[List.take_length]at hown;obtain⟨a2,c2,rfl,-⟩:=hown.shape;go_wp2_with fail;go_ret;exact⟨_,rfl,hown,hbel⟩
theorem fdTab_size {B:Nat} {w:World} {x:TabD} {cs:List Value} (h:fdTabN B w x cs):cs.length=6:=by
 obtain⟨v,rfl,_⟩:=h;rfl
theorem fdTab_one {B:Nat} {w:World} {x:TabD} {C:Array Value} (h:fdTabN B w x C.toList):C.all (·.oneCell')=true:=by
 obtain⟨v,e,ho⟩:=h;obtain⟨a,cap,rfl,_⟩:=ho.shape;rw[Array.toList_inj.1 e];exact TabD.cells_one _ _ _ _
theorem tabs_ty:SlTy prog 36 76 6 64:=SlTy.mk' (.agg zeroTabD) underlying36 (by kernel_rfl) rfl (by decide) (by decide)
set_option maxRecDepth 100000 in theorem copyTabs_anyN (l : List TabD) (n : Nat) (hn : n = l.length) (a : Option Addr) (cap : Nat) (w : World) (hs : SlRd w rdTab 6 a cap l) (hr : l.length * 64 ≤ 140737488351232) (hr2 : ∀ x ∈ l, x.rows.length * 24 ≤ 140737488351232) (B : Nat) (hB : B ≤ w.heap.size) :
  Calls prog 60 #[.slice a n cap] w fun e w'=>∃ v,e=.returned v∧OwnRd w' w.heap.size 76 (fdTabN B) 6 v l∧Below w.heap.size w w':=by
 subst hn;have hu:=underlying76;go_enter func60,ntmps60
 go_wp2_with fail;go_loopw [3,4] (fun v i wr=>∃ k:Nat,k≤l.length∧i=.int .i64 k∧OwnRd wr w.heap.size 76 (fdTabN B) 6 v (l.take k)∧Below w.heap.size w wr) (fun _ i _=>l.length - (intOf i).toNat)
 case atStart=>exact⟨0,Nat.zero_le _,rfl,OwnRd.nil _ _ _ _ _,Below.refl _ _⟩
 case round=>
  obtain⟨k,hk,rfl,hown,hbel⟩:=hrel;by_cases hlt:k < l.length
  ·obtain⟨b,o,rfl,hb,cs,hcl,hrd,hrg⟩:=SlRd.at (hs.keep last_rdTab hbel) (by decide) hlt;have c:=copyTab_anyN l[k] wr cs.toArray hrd (hr2 _ (List.getElem_mem hlt)) B (Nat.le_trans hB hbel.size);have hsz:(prog.info? 76).map (·.size)=some cs.length:=(by rw[hcl];exact tab_size);go_wp2_with (refine wpList_load_mid rfl 76 (.tmp 14) rfl b (o+k*6) rfl cs _ hrg hu rfl hsz ?_)
   (with_reducible refine c.mono ?_);rintro e w1 ⟨C,rfl,hfd,hb1⟩;have hC:C.size=6:=(by have:=fdTab_size hfd;rwa [Array.length_toList]at this);have hC1:=fdTab_one hfd;obtain⟨nb,-,hbn⟩:=box1 w1 C 76;have hfd2:=(last_fdTabN B) _ _ _ _ hfd hbn;have hown2:=(hown.keep (last_fdTabN B) hb1).keep (last_fdTabN B) hbn;have hbel2:=bstep (bstep hbel hb1 lrf) hbn lrf;have hfold:=fold_set zeroTabD C 6 hC rfl;clear hown hbel hb1 hrg hrd hfd hbn c;go_wp2_with (first|(at_builtin;go_loud (refine wpList_append_rd (last_fdTabN B) tabs_ty (l.take k) l[k] hown2 hbel2 lrf (by simp;omega) hfd2 hC hC1 (apt_fdTabN B (by decide)) ?_ (hx:=by rw[World.size_alloc];rfl)))|(refine wpList_newS (Z:=zeroTabD) (cs:=C) 76 (.tmp 5) (.tmp 16) (by rw[hC];exact tab_zero) (by rw[hC];rfl) hC1 ?_)|(refine wpList_loadS nb 76 (.tmp 5) hu (by rw[hC];exact tab_size) ?_))
   intro v' w3 hown3 hb3 hg3;clear hown2 hbel2 nb;go_wp2_with fail;go_roundw;case rel=>exact⟨k+1,by omega,by go_num,hown3,hb3⟩
   case measure=>simp[intOf];omega
  ·have:k=l.length:=by omega
   subst this;rw[List.take_length]at hown;obtain⟨a2,c2,rfl,-⟩:=hown.shape;go_wp2_with fail;go_ret;exact⟨_,rfl,hown,hbel⟩
end Go.Proofs.YtkblpaabknjckaaGreatDoor
