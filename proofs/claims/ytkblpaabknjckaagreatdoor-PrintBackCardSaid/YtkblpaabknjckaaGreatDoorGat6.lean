/-
  Plain: the parts of a file that is read, gathered again: the database. And what is read has no version but where it says so.
-/
import Derived.Test.YtkblpaabknjckaaGreatDoorBaseD
import Derived.Test.YtkblpaabknjckaaGreatDoorSamA
import Derived.Test.YtkblpaabknjckaaGreatDoorNodD
import Derived.Test.YtkblpaabknjckaaGreatDoorFilM
set_option maxHeartbeats 128000000
set_option linter.unusedVariables false
namespace Go.Proofs.YtkblpaabknjckaaGreatDoor
open Go.RowKit Go.Shelf
def Gives {α:Type} (p:List TokD→PR α) (P:α→Prop):Prop:=∀ ts x ts',p ts=.ok x ts'→TsB ts→P x
theorem Gives.bind {α β:Type} {p:List TokD→PR α} {f:α→List TokD→PR β} {Q:α→Prop} {P:β→Prop} (hp:Keeps p) (hq:Gives p Q) (hf:∀ y,Q y→Gives (f y) P):Gives (fun ts=>(p ts).bind f) P:=fun ts x ts' e hb=>by
 obtain⟨y,t,h1,h2⟩:=bind_inv e;exact hf y (hq _ _ _ h1 hb) _ _ _ h2 (hp _ _ _ h1 hb).1
theorem Gives.skip {α β:Type} {p:List TokD→PR α} {f:α→List TokD→PR β} {P:β→Prop} (hp:Keeps p) (hf:∀ y,Gives (f y) P):Gives (fun ts=>(p ts).bind f) P:=
 Gives.bind (Q:=fun _=>True) hp (fun _ _ _ _ _=>trivial) fun y _=>hf y
theorem gives_ok {α:Type} {P:α→Prop} (x:α) (h:P x):Gives (fun ts=>PR.ok x ts) P:=fun ts y ts' e hb=>by
 cases e
 exact h
theorem to_gives (nm:List UInt8):Gives (fun ts=>toF ts.length [nm] ts) (fun l=>l.length≤4000000):=fun ts x ts' e hb=>by
 have h1:=(to_ok _ e hb).2.2;have h2:=hb.2.2;have h3:=(to_ok _ e hb).1.1.pos;simp only[List.length_cons,List.length_nil]at h1;omega
theorem sig_gives:Gives sigR (fun x=>x.rs.length≤4000000):=
 Gives.skip (must_takes _).keeps fun _=>Gives.skip name_takes.keeps fun _=>Gives.skip role_keeps fun _=>Gives.skip (must_takes _).keeps fun _=>
 Gives.skip (whole_takes _).keeps fun _=>Gives.skip (must_takes _).keeps fun _=>Gives.skip (whole_takes _).keeps fun _=>Gives.skip order_takes.keeps fun _=>
 Gives.skip (must_takes _).keeps fun _=>Gives.skip frac_takes.keeps fun _=>Gives.skip (must_takes _).keeps fun _=>Gives.skip frac_takes.keeps fun _=>Gives.skip (must_takes _).keeps fun _=>
 Gives.skip (must_takes _).keeps fun _=>Gives.skip frac_takes.keeps fun _=>Gives.skip (must_takes _).keeps fun _=>Gives.skip frac_takes.keeps fun _=>Gives.skip (must_takes _).keeps fun _=>
 Gives.skip (next_takes _).keeps fun _=>Gives.skip name_takes.keeps fun _=>Gives.bind (to_keeps _) (to_gives _) fun _ h=>gives_ok _ h
def MsgBd (m:MsgD):Prop:=m.sigs.length≤64∧∀ x∈m.sigs,x.rs.length≤4000000
theorem sgs_gives:∀ (f:Nat) {l r:List SigX} {ts ts':List TokD},sgsF f l ts=.ok r ts'→(∀ x∈l,x.rs.length≤4000000)→TsB ts→∀ x∈r,x.rs.length≤4000000
 | 0,l,r,ts,ts',h,hl,hb=>by
  cases h
  exact hl
 | f+1,l,r,ts,ts',h,hl,hb=>by
  unfold sgsF wrongR at h;split at h
  ·split at h
   ·cases h
   ·obtain⟨y,t,h1,h2⟩:=bind_inv h;refine sgs_gives f h2 (fun x hx=>?_) (sig_takes _ _ _ h1 hb).1;rcases List.mem_append.1 hx with hx|hx
    ·exact hl x hx
    ·rw[List.mem_singleton]at hx;subst hx;exact sig_gives _ _ _ h1 hb
  ·cases h
   exact hl
theorem message_gives:Gives messageR MsgBd:=
 Gives.skip (must_takes _).keeps fun _=>Gives.skip id_takes.keeps fun _=>Gives.skip name_takes.keeps fun _=>Gives.skip (must_takes _).keeps fun _=>
 Gives.skip (whole_takes _).keeps fun _=>Gives.skip name_takes.keeps fun _=>Gives.bind (Q:=fun l:List SigX=>l.length≤64∧∀ x∈l,x.rs.length≤4000000) sgs_keeps (fun ts x ts' e hb=>⟨(sgs_ok _ e (by simp) hb).2.2,sgs_gives _ e (fun x hx=>by cases hx) hb⟩) fun _ h=>gives_ok _ h
theorem mssD_gives:∀ (f:Nat) {l r:List MsgD} {ts ts':List TokD},mssD f l ts=.ok r ts'→l.length≤512→(∀ m∈l,MsgBd m)→TsB ts→(TsB ts'∧ts'.length≤ts.length)∧r.length≤512∧∀ m∈r,MsgBd m
 | 0,l,r,ts,ts',h,hn,hl,hb=>by
  cases h
  exact⟨⟨hb,lrf⟩,hn,hl⟩
 | f+1,l,r,ts,ts',h,hn,hl,hb=>by
  unfold mssD wrongR at h;split at h
  ·split at h
   ·cases h
   ·rename_i hne
    obtain⟨y,t,h1,h2⟩:=bind_inv h;obtain⟨b1,l1⟩:=message_takes _ _ _ h1 hb;obtain⟨z,t2,h3,h4⟩:=bind_inv h2;obtain⟨b2,l2⟩:=comm_keeps _ _ _ h3 b1;obtain⟨⟨b3,l3⟩,l4,l5⟩:=mssD_gives f h4 (by rw[List.length_append,List.length_cons,List.length_nil];omega) (fun x hx=>by
     rcases List.mem_append.1 hx with hx|hx
     ·exact hl x hx
     ·rw[List.mem_singleton]at hx;subst hx;exact message_gives _ _ _ h1 hb) b2
    exact⟨⟨b3,by omega⟩,l4,l5⟩
  ·cases h
   exact⟨⟨hb,lrf⟩,hn,hl⟩
theorem table_four {ts ts':List TokD} {x:TabD} (h:tableR ts=.ok x ts') (hb:TsB ts):(TsB ts'∧ts'.length+4≤ts.length)∧x.rows.length≤256:=by
 unfold tableR at h;obtain⟨y1,t1,h1,h⟩:=bind_inv h;obtain⟨b1,l1⟩:=must_takes _ _ _ _ h1 hb;obtain⟨y2,t2,h2,h⟩:=bind_inv h;obtain⟨b2,l2⟩:=id_takes _ _ _ h2 b1;obtain⟨y3,t3,h3,h⟩:=bind_inv h;obtain⟨b3,l3⟩:=name_takes _ _ _ h3 b2;obtain⟨y4,t4,h4,h⟩:=bind_inv h;obtain⟨b4,l4,l4'⟩:=rows_ok _ h4 (by simp) b3;obtain⟨y5,t5,h5,h⟩:=bind_inv h;obtain⟨b5,l5⟩:=must_takes _ _ _ _ h5 b4;cases h
 exact⟨⟨b5,by omega⟩,l4'⟩
theorem tbsD_gives:∀ (f:Nat) {l r:List TabD} {ts ts':List TokD},tbsD f l ts=.ok r ts'→(∀ t∈l,t.rows.length≤256)→TsB ts→TsB ts'∧r.length*4+ts'.length≤l.length*4+ts.length∧∀ t∈r,t.rows.length≤256
 | 0,l,r,ts,ts',h,hl,hb=>by
  cases h
  exact⟨hb,lrf,hl⟩
 | f+1,l,r,ts,ts',h,hl,hb=>by
  unfold tbsD at h;split at h
  ·obtain⟨y,t,h1,h2⟩:=bind_inv h;obtain⟨⟨b1,l1⟩,r1⟩:=table_four h1 hb;obtain⟨z,t2,h3,h4⟩:=bind_inv h2;obtain⟨b2,l2⟩:=comm_keeps _ _ _ h3 b1;obtain⟨b3,l3,l4⟩:=tbsD_gives f h4 (fun x hx=>by
    rcases List.mem_append.1 hx with hx|hx
    ·exact hl x hx
    ·rw[List.mem_singleton]at hx;subst hx;exact r1) b2
   rw[List.length_append,List.length_cons,List.length_nil]at l3;exact⟨b3,by omega,l4⟩
  ·cases h
   exact⟨hb,lrf,hl⟩
theorem verX_keeps:Keeps verX:=fun ts x ts' e hb=>by
 unfold verX at e;split at e
 ·rename_i hs
  have ht:=tail_lt hb;obtain⟨y,t,h1,h2⟩:=bind_inv e;obtain⟨b1,l1⟩:=next_takes _ _ _ _ h1 (hb.tail (sees_kind hs));obtain⟨z,t2,h3,h4⟩:=bind_inv h2;obtain⟨b2,l2⟩:=comm_keeps _ _ _ h3 b1;cases h4
  exact⟨b2,by omega⟩
 ·cases e
  exact⟨hb,lrf⟩
structure DbBd (d:DbD) (n:Nat):Prop where
 nam:d.sta.names.length≤4000000
 mln:d.msgs.length≤512
 msg:∀ m∈d.msgs,MsgBd m
 tln:d.tabs.length*4≤n
 tab:∀ t∈d.tabs,t.rows.length≤256
theorem db_bd {ts ts':List TokD} {d:DbD} (h:dbR ts=.ok d ts') (hb:TsB ts):DbBd d ts.length:=by
 unfold dbR at h;obtain⟨y1,t1,h1,h⟩:=bind_inv h;obtain⟨b1,l1⟩:=comm_keeps _ _ _ h1 hb;obtain⟨y2,t2,h2,h⟩:=bind_inv h;obtain⟨b2,l2⟩:=verX_keeps _ _ _ h2 b1;obtain⟨y3,t3,h3,h⟩:=bind_inv h;obtain⟨b3,l3⟩:=must_takes _ _ _ _ h3 b2;obtain⟨y4,t4,h4,h⟩:=bind_inv h;obtain⟨b4,l4⟩:=must_takes _ _ _ _ h4 b3;obtain⟨y5,t5,h5,h⟩:=bind_inv h;obtain⟨b5,l5,l5'⟩:=nams_ok _ h5 b4;obtain⟨y6,t6,h6,h⟩:=bind_inv h;obtain⟨b6,l6⟩:=comm_keeps _ _ _ h6 b5;obtain⟨y7,t7,h7,h⟩:=bind_inv h;obtain⟨⟨b7,l7⟩,m1,m2⟩:=mssD_gives _ h7 (by simp) (fun x hx=>by cases hx) b6;obtain⟨y8,t8,h8,h⟩:=bind_inv h;obtain⟨b8,l8,m3⟩:=tbsD_gives _ h8 (fun x hx=>by cases hx) b7;unfold endD formR wrongR at h;split at h
 ·cases h
  have:=hb.2.2;have h6p:=b6.1.pos;simp only[List.length_nil]at l5' l8;exact⟨by show y5.length≤_;omega,m1,m2,by show y8.length*4≤_;omega,m3⟩
 ·cases h
def nrm6 (d:DbD):DbD:=if d.has then d else { d with ver:=⟨0,0,[]⟩ }
theorem gat6_tabs:∀ (l:List TabD) (i last:Nat) (d:DbD),2≤last→last≤4→gatL i last d (l.map NodeD.tab)=.good { d with tabs:=d.tabs++l }
 | [],i,last,d,h,_=>by
  show(if last < 2 then GatR.bad 2 i else GatR.good d)=_;rw[if_neg (by omega),List.append_nil]
 | t::l,i,last,d,h,h4=>by
  show(if gatB i last (.tab t) then GatR.bad 4 i else gatL (i+1) 4 (d.add (.tab t)) (l.map NodeD.tab))=_;have e:gatB i last (.tab t)=false:=by
   unfold gatB;rw[decide_eq_true (show 2≤last from h),decide_eq_false (show ¬ (NodeD.tab t).rank < last by simp only[NodeD.rank];omega)];rfl
  rw[e,gat6_tabs l (i+1) 4 _ (by decide) (by decide)];simp[DbD.add]
theorem gat6_msgs (r:List TabD):∀ (l:List MsgD) (i last:Nat) (d:DbD),2≤last→last≤3→gatL i last d (l.map NodeD.msg++r.map NodeD.tab)=.good { d with msgs:=d.msgs++l,tabs:=d.tabs++r }
 | [],i,last,d,h,_=>by
  rw[List.map_nil,List.nil_append,gat6_tabs r i last d h (by omega),List.append_nil]
 | m::l,i,last,d,h,h3=>by
  show(if gatB i last (.msg m) then GatR.bad 4 i else gatL (i+1) 3 (d.add (.msg m)) (l.map NodeD.msg++r.map NodeD.tab))=_;have e:gatB i last (.msg m)=false:=by
   unfold gatB;rw[decide_eq_true (show 2≤last from h),decide_eq_false (show ¬ (NodeD.msg m).rank < last by simp only[NodeD.rank];omega)];rfl
  rw[e,gat6_msgs r l (i+1) 3 _ (by decide) (by decide)];simp[DbD.add]
theorem gat6_nod (d:DbD):gatL 0 0 DbD.zero (nodsD d)=.good (nrm6 d):=by
 have h:∀ (i last:Nat) (e:DbD),last≤1→gatL i last e (.sta d.sta::(d.msgs.map .msg++d.tabs.map .tab))=.good { e with sta:=d.sta,msgs:=e.msgs++d.msgs,tabs:=e.tabs++d.tabs }:=fun i last e hl=>by
  show(if gatB i last (.sta d.sta) then GatR.bad 4 i else gatL (i+1) 2 (e.add (.sta d.sta)) (d.msgs.map .msg++d.tabs.map .tab))=_;have e1:gatB i last (.sta d.sta)=false:=by
   unfold gatB;rw[decide_eq_false (show ¬ 2≤last by omega),decide_eq_false (show ¬ (NodeD.sta d.sta).rank < last by simp only[NodeD.rank];omega)];rfl
  rw[e1,gat6_msgs d.tabs d.msgs (i+1) 2 _ (by decide) (by decide)];rfl
 unfold nodsD nrm6;cases hh:d.has
 ·rw[show(if false=true then [NodeD.ver d.ver] else [])=[]from rfl,List.nil_append,h 0 0 _ (by decide)];cases d
  simp only at hh;subst hh;rfl
 ·show(if gatB 0 0 (.ver d.ver) then GatR.bad 4 0 else gatL 1 1 (DbD.zero.add (.ver d.ver)) (.sta d.sta::(d.msgs.map .msg++d.tabs.map .tab)))=_;rw[show gatB 0 0 (.ver d.ver)=false from rfl,h 1 1 _ (by decide)];cases d
  simp only at hh;subst hh;rfl
def VerOK (d:DbD):Prop:=d.has=false→d.ver=⟨0,0,[]⟩
theorem db_ver {ts ts':List TokD} {d:DbD} (h:dbR ts=.ok d ts'):VerOK d:=by
 unfold dbR at h;obtain⟨y1,t1,h1,h⟩:=bind_inv h;obtain⟨y2,t2,h2,h⟩:=bind_inv h;obtain⟨y3,t3,h3,h⟩:=bind_inv h;obtain⟨y4,t4,h4,h⟩:=bind_inv h;obtain⟨y5,t5,h5,h⟩:=bind_inv h;obtain⟨y6,t6,h6,h⟩:=bind_inv h;obtain⟨y7,t7,h7,h⟩:=bind_inv h;obtain⟨y8,t8,h8,h⟩:=bind_inv h;unfold endD formR wrongR at h;split at h
 ·cases h
  unfold VerOK;intro hh;unfold verX at h2;split at h2
  ·obtain⟨x,u,k1,k2⟩:=bind_inv h2;obtain⟨z,u2,k3,k4⟩:=bind_inv k2;cases k4
   cases hh
  ·cases h2
   rfl
 ·cases h
theorem gat6_read (d:DbD) (h:VerOK d):gatL 0 0 DbD.zero (nodsD d)=.good d:=by
 rw[gat6_nod];unfold nrm6;cases hh:d.has
 ·have:=h hh;simp only[Bool.false_eq_true,if_false];rw[← this,← hh]
 ·rfl
end Go.Proofs.YtkblpaabknjckaaGreatDoor
