/-
  Plain: the parts of a file that is read, gathered again: the database. And what is read has no version but where it says so.
-/
import Derived.Test.YtjgjckipfkkgiaaGreatDoorFilM
import Derived.Test.YtjgjckipfkkgiaaGreatDoorHeldL
import Derived.Test.YtjgjckipfkkgiaaGreatDoorNodD
import Derived.Test.YtjgjckipfkkgiaaGreatDoorPtbM
set_option maxHeartbeats 128000000
set_option linter.unusedVariables false
namespace Go.Proofs.YtjgjckipfkkgiaaGreatDoor
open Go.RowKit Go.Shelf
def headM:NodeD→Mark
 | .ver v=>([86,69,82,83,73,79,78],v.line,v.col)
 | .sta s=>([66,85,95],s.line,s.col)
 | .msg m=>([66,79,95],m.line,m.col)
 | .tab t=>([86,65,76,95],t.line,t.col)
def nrm6 (d:DbD):DbD:=if d.has then d else { d with ver:=⟨0,0,[]⟩ }
theorem gat6_tabs:∀ (l:List TabD) (i last:Nat) (d:DbD),2≤last→last≤4→gatL i last d (l.map NodeD.tab)=.good { d with tabs:=d.tabs++l }
 | [],i,last,d,h,_=>by
  show(if last < 2 then GatR.bad 2 i else GatR.good d)=_;rw[if_neg (by omega),List.append_nil]
 | t::l,i,last,d,h,h4=>by
  show(if gatB i last (.tab t) then GatR.bad 4 i else gatL (i+1) 4 (d.add (.tab t)) (l.map NodeD.tab))=_;have e:gatB i last (.tab t)=false:=by
   unfold gatB;rw[decide_eq_true (show 2≤last from h),decide_eq_false (show ¬ (NodeD.tab t).rank < last by simp only[NodeD.rank];omega)];rfl
  rw[e,gat6_tabs l (i+1) 4 _ (by decide) (by decide)];simp[DbD.add]
theorem gat6_msgs (r:List TabD):∀ (l:List MsgD) (i last:Nat) (d:DbD),2≤last→last≤3→gatL i last d (l.map NodeD.msg++r.map NodeD.tab)=.good { d with msgs:=d.msgs++l,tabs:=d.tabs++r }
 | [],i,last,d,h,_=>by
  rw[List.map_nil,List.nil_append,gat6_tabs r i last d h (by omega),List.append_nil]
 | m::l,i,last,d,h,h3=>by
  show(if gatB i last (.msg m) then GatR.bad 4 i else gatL (i+1) 3 (d.add (.msg m)) (l.map NodeD.msg++r.map NodeD.tab))=_;have e:gatB i last (.msg m)=false:=by
   unfold gatB;rw[decide_eq_true (show 2≤last from h),decide_eq_false (show ¬ (NodeD.msg m).rank < last by simp only[NodeD.rank];omega)];rfl
  rw[e,gat6_msgs r l (i+1) 3 _ (by decide) (by decide)];simp[DbD.add]
theorem gat6_nod (d:DbD):gatL 0 0 DbD.zero (nodsD d)=.good (nrm6 d):=by
 have h:∀ (i last:Nat) (e:DbD),last≤1→gatL i last e (.sta d.sta::(d.msgs.map .msg++d.tabs.map .tab))=.good { e with sta:=d.sta,msgs:=e.msgs++d.msgs,tabs:=e.tabs++d.tabs }:=fun i last e hl=>by
  show(if gatB i last (.sta d.sta) then GatR.bad 4 i else gatL (i+1) 2 (e.add (.sta d.sta)) (d.msgs.map .msg++d.tabs.map .tab))=_;have e1:gatB i last (.sta d.sta)=false:=by
   unfold gatB;rw[decide_eq_false (show ¬ 2≤last by omega),decide_eq_false (show ¬ (NodeD.sta d.sta).rank < last by simp only[NodeD.rank];omega)];rfl
  rw[e1,gat6_msgs d.tabs d.msgs (i+1) 2 _ (by decide) (by decide)];rfl
 unfold nodsD nrm6;cases hh:d.has
 ·rw[show(if false=true then [NodeD.ver d.ver] else [])=[]from rfl,List.nil_append,h 0 0 _ (by decide)];cases d
  simp only at hh;subst hh;rfl
 ·show(if gatB 0 0 (.ver d.ver) then GatR.bad 4 0 else gatL 1 1 (DbD.zero.add (.ver d.ver)) (.sta d.sta::(d.msgs.map .msg++d.tabs.map .tab)))=_;rw[show gatB 0 0 (.ver d.ver)=false from rfl,h 1 1 _ (by decide)];cases d
  simp only at hh;subst hh;rfl
def VerOK (d:DbD):Prop:=d.has=false→d.ver=⟨0,0,[]⟩
theorem db_ver {ts ts':List TokD} {d:DbD} (h:dbR ts=.ok d ts'):VerOK d:=by
 unfold dbR at h;obtain⟨y1,t1,h1,h⟩:=bind_inv h;obtain⟨y2,t2,h2,h⟩:=bind_inv h;obtain⟨y3,t3,h3,h⟩:=bind_inv h;obtain⟨y4,t4,h4,h⟩:=bind_inv h;obtain⟨y5,t5,h5,h⟩:=bind_inv h;obtain⟨y6,t6,h6,h⟩:=bind_inv h;obtain⟨y7,t7,h7,h⟩:=bind_inv h;obtain⟨y8,t8,h8,h⟩:=bind_inv h;unfold endD formR wrongR at h;split at h
 ·cases h
  unfold VerOK;intro hh;unfold verX at h2;split at h2
  ·obtain⟨x,u,k1,k2⟩:=bind_inv h2;obtain⟨z,u2,k3,k4⟩:=bind_inv k2;cases k4
   cases hh
  ·cases h2
   rfl
 ·cases h
theorem gat6_read (d:DbD) (h:VerOK d):gatL 0 0 DbD.zero (nodsD d)=.good d:=by
 rw[gat6_nod];unfold nrm6;cases hh:d.has
 ·have:=h hh;simp only[Bool.false_eq_true,if_false];rw[← this,← hh]
 ·rfl
end Go.Proofs.YtjgjckipfkkgiaaGreatDoor
