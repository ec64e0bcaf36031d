/-
  Plain: a source that is read: its database may be written, unless it is too long.
-/
import Derived.Test.YtkblpaabknjckaaGreatDoorBckP
import Derived.Test.YtkblpaabknjckaaGreatDoorMorP
import Derived.Test.YtkblpaabknjckaaGreatDoorPrnR
import Derived.Deep.Strs
import Derived.Test.YtkblpaabknjckaaGreatDoorNodD
set_option maxHeartbeats 128000000
set_option linter.unusedVariables false
namespace Go.Proofs.YtkblpaabknjckaaGreatDoor
open Go.RowKit Go.Shelf
theorem sig_head {s:SigX} {T R:List TokD} (hT:T.map ekT=sigK s.d s.rs):∃ t r,T++R=t::r∧ekT t=(1,[83,71,95]):=by
 unfold sigK at hT;obtain⟨t1,T,rfl,e1,hT⟩:=peel hT;exact⟨t1,T++R,rfl,e1⟩
theorem sgs_back:∀ (l acc:List SigX) (T R:List TokD) (f:Nat),T.map ekT=(l.flatMap fun s=>sigK s.d s.rs)→(∀ s∈l,Sig64 s.d)→l.all sxB=true→HdW [[66,79,95],[86,65,76,95]] R→l.length+acc.length≤64→l.length≤f →
  ∃ r,sgsF f acc (T++R)=.ok (acc++r) R∧r.map zSig=l.map zSig
 | [],acc,T,R,f,hT,_,_,hR,_,_=>by
  have:T=[]:=List.map_eq_nil_iff.1 hT;subst this;refine⟨[],?_,rfl⟩;rw[List.nil_append,List.append_nil];cases f with
  | zero=>rfl
  | succ f=>
   show(if seesB [83,71,95] R then _ else PR.ok acc R)=_;rw[hR.sees (by decide)];rfl
 | s::l,acc,T,R,0,hT,_,_,hR,_,hf=>by simp at hf
 | s::l,acc,T,R,f+1,hT,h6,h,hR,hl,hf=>by
  rw[List.all_cons,Bool.and_eq_true]at h;rw[List.flatMap_cons]at hT;obtain⟨A,B,rfl,hA,hB⟩:=peel_app hT;have hne:seesB [44] (B++R)=false:=by
   cases l with
   | nil=>
    have:B=[]:=List.map_eq_nil_iff.1 hB;subst this;exact hR.sees (by decide)
   | cons s2 l=>
    rw[List.flatMap_cons]at hB;obtain⟨A2,B2,rfl,hA2,hB2⟩:=peel_app hB;obtain⟨t,r,e,he⟩:=sig_head (R:=B2++R) hA2;rw[List.append_assoc,e];exact sees_no he (by decide)
  obtain⟨x,h1,h2⟩:=sig_back (h6 s (List.mem_cons_self ..)) h.1 (R:=B++R) hA hne;obtain⟨r,h3,h4⟩:=sgs_back l (acc++[x]) B R f hB (fun s hs=>h6 s (List.mem_cons_of_mem _ hs)) h.2 hR (by simp only[List.length_append,List.length_cons,List.length_nil]at hl ⊢;omega) (by simpa using hf);obtain⟨t,r',e,he⟩:=sig_head (R:=B++R) hA;refine⟨x::r,?_,by rw[List.map_cons,List.map_cons,h2,h4]⟩;rw[List.append_assoc];show(if seesB [83,71,95] (A++(B++R)) then (if acc.length=64 then _ else (sigR (A++(B++R))).bind fun x ts'=>sgsF f (acc++[x]) ts') else _)=_;rw[if_pos (by rw[e];exact sees_k he (.inl rfl)),if_neg (by simp only[List.length_cons]at hl;omega),h1,PR.bind_ok,h3];simp
theorem num_k {id:Nat} {w:Bool} {t:TokD} {r:List TokD} (h:numB id=true) (e:ekT t=(2,numT id w)):idR (t::r)=.ok (id,w) r:=by
 unfold numB at h;rw[decide_eq_true_eq]at h;unfold numT at e;unfold idR;have hw:(if w=true then id+2147483648 else id) < 4294967296:=(by split<;>omega);rw[whole_k hw (by decide) e];show PR.ok _ r=_
 congr 1
 cases w
 ·simp only[Bool.false_eq_true,if_false];rw[Nat.mod_eq_of_lt h,decide_eq_false (by omega)]
 ·simp only[if_true];rw[Nat.add_mod_right,Nat.mod_eq_of_lt h,decide_eq_true (by omega)]
theorem sigK_len (l:List SigX):l.length≤(l.flatMap fun s=>sigK s.d s.rs).length:=by
 induction l with
 | nil=>exact Nat.zero_le _
 | cons s l ih=>
  rw[List.flatMap_cons,List.length_append,List.length_cons];have:1≤(sigK s.d s.rs).length:=by unfold sigK;simp
  omega
theorem msg_back {m:MsgD} (h:msgB m=true) (h6:∀ s∈m.sigs,Sig64 s.d) {T R:List TokD} (hT:T.map ekT=msgK2 m) (hR:HdW [[66,79,95],[86,65,76,95]] R):∃ x,messageR (T++R)=.ok x R∧zMsg x=zMsg m:=by
 unfold msgB at h;simp only[Bool.and_eq_true,decide_eq_true_eq]at h;obtain⟨h1,h2,h3,h4,h5,h7⟩:=h;unfold msgK2 at hT;obtain⟨t1,T,rfl,e1,hT⟩:=peel hT;obtain⟨t2,T,rfl,e2,hT⟩:=peel hT;obtain⟨t3,T,rfl,e3,hT⟩:=peel hT;obtain⟨t4,T,rfl,e4,hT⟩:=peel hT;obtain⟨t5,T,rfl,e5,hT⟩:=peel hT;obtain⟨t6,T,rfl,e6,hT⟩:=peel hT;obtain⟨n,z,b,i⟩:=siz_dec h4;rw[i]at e5;obtain⟨r,g1,g2⟩:=sgs_back m.sigs [] T R (T++R).length hT h6 h7 hR (by simpa using h5) (by
  have h8:=congrArg List.length hT;rw[List.length_map]at h8;have h9:=sigK_len m.sigs;rw[List.length_append];omega)
 rw[List.nil_append]at g1;refine⟨⟨t1.line,t1.col,m.id,m.wide,m.name,n,m.sender,r⟩,?_,?_⟩
 ·show messageR (t1::t2::t3::t4::t5::t6::(T++R))=_;unfold messageR;rw[must_k e1 (.inl rfl),PR.bind_ok,num_k h1 e2,PR.bind_ok,name_k h2 e3,PR.bind_ok,must_k e4 (.inr rfl),PR.bind_ok,whole_k b (by decide) e5,PR.bind_ok,name_k h3 e6,PR.bind_ok,g1,PR.bind_ok]
 ·obtain⟨v0,v1,v2,v3,v4,v5,v6,v7⟩:=m;dsimp only at z g2;subst z;show(⟨0,0,v2,v3,v4,n,v6,r.map zSig⟩:MsgD)=⟨0,0,v2,v3,v4,n,v6,v7.map zSig⟩;rw[g2]
theorem rows_back:∀ (l acc:List (Int×List UInt8)) (T R:List TokD) (f:Nat),T.map ekT=(l.flatMap fun r=>[(2,Lib.itoa r.1),(3,r.2)])→(∀ r∈l,In64 r.1)→(∃ t r,R=t::r∧t.kind=4)→l.length+acc.length≤256→l.length≤f→rowsF f acc (T++R)=.ok (acc++l) R
 | [],acc,T,R,f,hT,_,hR,_,_=>by
  have:T=[]:=List.map_eq_nil_iff.1 hT;subst this;obtain⟨t,r,rfl,hk⟩:=hR;rw[List.nil_append,List.append_nil];cases f with
  | zero=>rfl
  | succ f=>
   show(if t.kind=2 then _ else PR.ok acc (t::r))=_;rw[if_neg (by rw[hk];decide)]
 | x::l,acc,T,R,0,hT,_,hR,_,hf=>by simp at hf
 | x::l,acc,T,R,f+1,hT,h6,hR,hl,hf=>by
  rw[List.flatMap_cons]at hT;obtain⟨t1,T1,rfl,e1,hT⟩:=peel hT;obtain⟨t2,T2,rfl,e2,hT⟩:=peel hT;obtain⟨k1,k2⟩:=kind_k e1;obtain⟨k3,k4⟩:=kind_k e2;have ih:=rows_back l (acc++[x]) T2 R f hT (fun r hr=>h6 r (List.mem_cons_of_mem _ hr)) hR (by simp only[List.length_append,List.length_cons,List.length_nil]at hl ⊢;omega) (by simpa using hf);show(if t1.kind=2 then (match intP t1.text with|none=>_|some v=>if acc.length=256 then _ else (nextR 3 (t2::(T2++R))).bind fun x ts'=>rowsF f (acc++[(v,x.text)]) ts') else _)=_;rw[k1,k2,if_pos rfl,intP_itoa (h6 x (List.mem_cons_self ..))];show(if acc.length=256 then _ else (nextR 3 (t2::(T2++R))).bind fun y ts'=>rowsF f (acc++[(x.1,y.text)]) ts')=_;rw[if_neg (by simp only[List.length_cons]at hl;omega),next_k (by decide) k3,PR.bind_ok,k4,ih];simp
theorem tab_back {t:TabD} (h:tabB t=true) (h6:∀ r∈t.rows,In64 r.1) {T R:List TokD} (hT:T.map ekT=tabK t):∃ x,tableR (T++R)=.ok x R∧zTab x=zTab t:=by
 unfold tabB at h;simp only[Bool.and_eq_true,decide_eq_true_eq]at h;obtain⟨h1,h2,h3,h4⟩:=h;unfold tabK at hT;obtain⟨t1,T,rfl,e1,hT⟩:=peel hT;obtain⟨t2,T,rfl,e2,hT⟩:=peel hT;obtain⟨t3,T,rfl,e3,hT⟩:=peel hT;obtain⟨A,B,rfl,eA,hB⟩:=peel_app hT;obtain⟨t4,B,rfl,e4,hB⟩:=peel hB;have:B=[]:=List.map_eq_nil_iff.1 hB;subst this;have g:=rows_back t.rows [] A (t4::R) (A++t4::R).length eA h6 ⟨t4,R,rfl,(kind_k e4).1⟩ (by simpa using h3) (by
  have h8:=congrArg List.length eA;rw[List.length_map]at h8;have h9:∀ l:List (Int×List UInt8),(l.flatMap fun r=>([((2:Int),Lib.itoa r.1),(3,r.2)]:List KT2)).length=2*l.length:=fun l=>by
   induction l with
   | nil=>rfl
   | cons a l ih=>rw[List.flatMap_cons,List.length_append,ih];simp only[List.length_cons,List.length_nil];omega
  rw[h9]at h8;rw[List.length_append];omega)
 refine⟨⟨t1.line,t1.col,t.id,t.wide,t.sig,t.rows⟩,?_,rfl⟩;have e0:t1::t2::t3::(A++[t4])++R=t1::t2::t3::(A++t4::R):=(by simp);rw[e0];unfold tableR;rw[must_k e1 (.inl rfl),PR.bind_ok,num_k h1 e2,PR.bind_ok,name_k h2 e3,PR.bind_ok,g,PR.bind_ok,must_k e4 (.inr rfl),PR.bind_ok];rfl
theorem nams_back:∀ (l acc:List (List UInt8)) (T R:List TokD) (f:Nat),T.map ekT=(l.map fun x=>(1,x))→l.all wordB=true→namedB R=false→l.length≤f→namsF f acc (T++R)=.ok (acc++l) R
 | [],acc,T,R,f,hT,_,hR,_=>by
  have:T=[]:=List.map_eq_nil_iff.1 hT;subst this;rw[List.nil_append,List.append_nil];cases f with
  | zero=>rfl
  | succ f=>
   show(if namedB R then _ else PR.ok acc R)=_;rw[hR];rfl
 | x::l,acc,T,R,0,hT,_,hR,hf=>by simp at hf
 | x::l,acc,T,R,f+1,hT,h,hR,hf=>by
  rw[List.all_cons,Bool.and_eq_true]at h;rw[List.map_cons]at hT;obtain⟨t1,T1,rfl,e1,hT⟩:=peel hT;have ih:=nams_back l (acc++[x]) T1 R f hT h.2 hR (by simpa using hf);show(if namedB (t1::(T1++R)) then (nameR (t1::(T1++R))).bind fun nm ts'=>namsF f (acc++[nm]) ts' else _)=_;rw[if_pos (named_k h.1 e1),name_k h.1 e1,PR.bind_ok,ih];simp
theorem comm_no {R:List TokD} (h:seesB [67,77,95] R=false):commentsR R=.ok () R:=by
 unfold commentsR;cases R with
 | nil=>rfl
 | cons a l=>rw[List.length_cons,commF_succ,if_neg (by rw[h];decide)]
theorem tabs_back:∀ (l:List TabD) (T R:List TokD),T.map ekT=l.flatMap tabK→l.all tabB=true→(∀ t∈l,∀ r∈t.rows,In64 r.1)→HdW [] R→HdW [[86,65,76,95]] (T++R)∧∃ l' ns,ItR [86,65,76,95] tableR (T++R) l' R ns∧l'.map zTab=l.map zTab
 | [],T,R,hT,_,_,hR=>by
  have:T=[]:=List.map_eq_nil_iff.1 hT;subst this;exact⟨hR.weak (fun w hw=>by cases hw),[],[],.stop (hR.sees (by simp)),rfl⟩
 | t::l,T,R,hT,h,h6,hR=>by
  rw[List.all_cons,Bool.and_eq_true]at h;rw[List.flatMap_cons]at hT;obtain⟨A,B,rfl,hA,hB⟩:=peel_app hT;obtain⟨g1,l',ns,g2,g3⟩:=tabs_back l B R hB h.2 (fun t ht=>h6 t (List.mem_cons_of_mem _ ht)) hR;obtain⟨x,g4,g5⟩:=tab_back h.1 (h6 t (List.mem_cons_self ..)) (R:=B++R) hA;have hh:=hA;unfold tabK at hh;obtain⟨t1,A,rfl,e1,-⟩:=peel hh;rw[List.append_assoc];refine⟨⟨t1,A++(B++R),rfl,.inr ⟨_,List.mem_singleton.2 rfl,e1⟩⟩,x::l',_,.go (sees_k e1 (.inl rfl)) g4 (comm_no (g1.sees (by decide))) g2,by rw[List.map_cons,List.map_cons,g5,g3]⟩
theorem msgs_back:∀ (l:List MsgD) (T R:List TokD),T.map ekT=l.flatMap msgK2→l.all msgB=true→(∀ m∈l,∀ s∈m.sigs,Sig64 s.d)→HdW [[86,65,76,95]] R→HdW [[66,79,95],[86,65,76,95]] (T++R)∧∃ l' ns,ItR [66,79,95] messageR (T++R) l' R ns∧l'.map zMsg=l.map zMsg
 | [],T,R,hT,_,_,hR=>by
  have:T=[]:=List.map_eq_nil_iff.1 hT;subst this;exact⟨hR.weak (fun w hw=>List.mem_cons_of_mem _ hw),[],[],.stop (hR.sees (by decide)),rfl⟩
 | m::l,T,R,hT,h,h6,hR=>by
  rw[List.all_cons,Bool.and_eq_true]at h;rw[List.flatMap_cons]at hT;obtain⟨A,B,rfl,hA,hB⟩:=peel_app hT;obtain⟨g1,l',ns,g2,g3⟩:=msgs_back l B R hB h.2 (fun t ht=>h6 t (List.mem_cons_of_mem _ ht)) hR;obtain⟨x,g4,g5⟩:=msg_back h.1 (h6 m (List.mem_cons_self ..)) (R:=B++R) hA g1;have hh:=hA;unfold msgK2 at hh;obtain⟨t1,A,rfl,e1,-⟩:=peel hh;rw[List.append_assoc];refine⟨⟨t1,A++(B++R),rfl,.inr ⟨_,List.mem_cons_self ..,e1⟩⟩,x::l',_,.go (sees_k e1 (.inl rfl)) g4 (comm_no (g1.sees (by decide))) g2,by rw[List.map_cons,List.map_cons,g5,g3]⟩
theorem sta_back {s:StaD} (h:staB s=true) {T R:List TokD} (hT:T.map ekT=staK s) (hR:HdW [[66,79,95],[86,65,76,95]] R):∃ t,staP (T++R)=.ok (t,s.names) R∧∃ r,T++R=t::r∧ekT t=(1,[66,85,95]):=by
 unfold staK at hT;obtain⟨t1,T,rfl,e1,hT⟩:=peel hT;obtain⟨t2,T,rfl,e2,hT⟩:=peel hT;have g:=nams_back s.names [] T R (T++R).length hT h (hR.named (by decide)) (by
  have h8:=congrArg List.length hT;rw[List.length_map,List.length_map]at h8;rw[List.length_append];omega)
 refine⟨t1,?_,t2::(T++R),rfl,e1⟩;show staP (t1::t2::(T++R))=_;unfold staP;rw[must_k e1 (.inl rfl),PR.bind_ok,must_k e2 (.inr rfl),PR.bind_ok,g,PR.bind_ok];rfl
theorem db_back {d:DbD} (h:dbB d=true) (h6:Db64 d) {l:List TokD} {q:Int×Int} (hl:l.map ekT=dbK d):∃ d' hs,DbRun (l++[endTok q]) d' hs∧bareD d' = bareD d:=by
 unfold dbB at h;simp only[Bool.and_eq_true,Bool.or_eq_true,Bool.not_eq_true',decide_eq_true_eq]at h;obtain⟨h1,h2,h3,h4,h5⟩:=h;unfold dbK at hl;obtain⟨V,X,rfl,eV,hX⟩:=peel_app hl;obtain⟨S,X,rfl,eS,hX⟩:=peel_app hX;obtain⟨M,B,rfl,eM,eB⟩:=peel_app hX;have hend:HdW [] [endTok q]:=⟨endTok q,[],rfl,.inl rfl⟩
 obtain⟨b1,tb,n2,b2,b3⟩:=tabs_back d.tabs B [endTok q] eB h5 h6.2 hend;obtain⟨m1,ms,n1,m2,m3⟩:=msgs_back d.msgs M (B++[endTok q]) eM h4 h6.1 b1;obtain⟨ts,s1,sr,s2,s3⟩:=sta_back h2 (R:=M++(B++[endTok q])) eS m1;have hlen:ms.length=d.msgs.length:=(by have:=congrArg List.length m3;simpa using this);have hsc:seesB [67,77,95] (S++(M++(B++[endTok q])))=false:=(by rw[s2];exact sees_no s3 (by decide));have hsv:seesB [86,69,82,83,73,79,78] (S++(M++(B++[endTok q])))=false:=(by rw[s2];exact sees_no s3 (by decide));have e0:V++(S++(M++B))++[endTok q]=V++(S++(M++(B++[endTok q]))):=(by simp);rw[e0];have hver:∃ ver:VerD,commentsR (V++(S++(M++(B++[endTok q]))))=.ok () (V++(S++(M++(B++[endTok q]))))∧((seesB [86,69,82,83,73,79,78] (V++(S++(M++(B++[endTok q]))))=true∧∃ v t,verP (V++(S++(M++(B++[endTok q]))))=.ok v t∧commentsR t=.ok () (S++(M++(B++[endTok q])))∧d.has=true∧ver=⟨v.1.line,v.1.col,v.2⟩)∨(seesB [86,69,82,83,73,79,78] (V++(S++(M++(B++[endTok q]))))=false∧(S++(M++(B++[endTok q])))=(V++(S++(M++(B++[endTok q]))))∧d.has=false∧ver=⟨0,0,[]⟩))∧(d.has=true→ver.text=d.ver.text):=by
  cases hh:d.has
  ·rw[hh]at eV;have:V=[]:=List.map_eq_nil_iff.1 eV;subst this;exact⟨⟨0,0,[]⟩,comm_no hsc,.inr ⟨hsv,rfl,rfl,rfl⟩,fun h=>by cases h⟩
  ·rw[hh]at eV;have eV':V.map ekT=verK d.ver:=eV;unfold verK at eV';obtain⟨t1,V,rfl,e1,eV'⟩:=peel eV';obtain⟨t2,V,rfl,e2,eV'⟩:=peel eV';have:V=[]:=List.map_eq_nil_iff.1 eV';subst this;refine⟨⟨t1.line,t1.col,t2.text⟩,comm_no (sees_no e1 (by decide)),.inl ⟨sees_k e1 (.inl rfl),(t1,t2.text),S++(M++(B++[endTok q])),?_,comm_no hsc,rfl,rfl⟩,fun _=>(kind_k e2).2⟩;show verP (t1::t2::(S++(M++(B++[endTok q]))))=_;unfold verP;rw[must_k e1 (.inl rfl),PR.bind_ok,next_k (by decide) (kind_k e2).1,PR.bind_ok]
 obtain⟨ver,v1,v2,v3⟩:=hver;refine⟨⟨d.has,ver,⟨ts.line,ts.col,d.sta.names⟩,ms,tb⟩,_,⟨_,_,_,_,_,_,n1,n2,(ts,d.sta.names),v1,v2,s1,comm_no (m1.sees (by decide)),m2,by show ms.length≤512;omega,b2,rfl,rfl,rfl⟩,?_⟩;obtain⟨dh,dv,ds,dm,dt⟩:=d;dsimp only at *;unfold bareD;simp only[m3,b3];cases dh
 ·rfl
 ·simp only[if_true,v3 rfl]
theorem back_file {d:DbD} (h:dbB d=true) (h6:Db64 d) (hl:(dbT d).length≤1048576):∃ d',DbBd d' 1048577∧VerOK d'∧fileR (dbT d)=.good (nodsD d')∧bareD d' = bareD d:=by
 obtain⟨l,q,h1,h2⟩:=back_scan h h6 hl;obtain⟨d',hs,h3,h4⟩:=db_back h h6 h2;obtain⟨r,h5⟩:=db_of h3 (scanL_toks h1);obtain⟨g1,g2,g3⟩:=file_of h1 h5;exact⟨d',g1,g2,g3,h4⟩
open Go.RowKit Go.ChangeShapes
structure SigWf (d:SigD):Prop where
 ro:In64 d.role
 br:d.branch < 18446744073709551616
 st:In64 d.start
 sz:In64 d.size
 s1:In64 d.sn
 s2:In64 d.sd
 o1:In64 d.on
 o2:In64 d.od
 m1:In64 d.mn
 m2:In64 d.md
 x1:In64 d.xn
 x2:In64 d.xd
 nm:d.name.length≤maxLen
 un:d.unit.length≤maxLen
open Go.RowKit
structure SxWf (x:SigX):Prop where
 d:SigWf x.d
 w:∀ r∈x.rs,r.length≤9223372036854775807
structure MsgWf (m:MsgD):Prop where
 id:m.id < 4294967296
 sz:In64 m.size
 nm:m.name.length≤9223372036854775807
 sn:m.sender.length≤9223372036854775807
 sg:∀ s∈m.sigs,SxWf s
structure TabWf (t:TabD):Prop where
 id:t.id < 4294967296
 sg:t.sig.length≤9223372036854775807
 rw:∀ r∈t.rows,In64 r.1∧r.2.length≤9223372036854775807
structure DbWf (d:DbD):Prop where
 tx:d.ver.text.length≤9223372036854775807
 nm:∀ r∈d.sta.names,r.length≤9223372036854775807
 ms:∀ m∈d.msgs,MsgWf m
 tb:∀ t∈d.tabs,TabWf t
theorem wf_64 {d:DbD} (h:DbWf d):Db64 d:=
 ⟨fun m hm s hs=>by
  have h1:=((h.ms m hm).sg s hs).d;exact⟨h1.br,h1.s1,h1.s2,h1.o1,h1.o2,h1.m1,h1.m2,h1.x1,h1.x2⟩,fun t ht r hr=>((h.tb t ht).rw r hr).1⟩
theorem cop_p {r p:Nat} (hp:p=2∨p=5) (h:r % p≠0):Nat.Coprime r p:=by
 have h1:Nat.gcd r p ∣ p:=Nat.gcd_dvd_right r p;have h2:Nat.gcd r p ∣ r:=Nat.gcd_dvd_left r p;have h3:Nat.gcd r p≤p:=Nat.le_of_dvd (by omega) h1;have h4:Nat.gcd r p≠p:=fun e=>h (Nat.mod_eq_zero_of_dvd (by rw[e]at h2;exact h2))
 show Nat.gcd r p=1;generalize Nat.gcd r p=g at *;rcases hp with rfl|rfl
 ·have:g=0∨g=1:=by omega
  rcases this with rfl|rfl
  ·exact absurd h1 (by decide)
  ·rfl
 ·have:g=0∨g=1∨g=2∨g=3∨g=4:=by omega
  rcases this with rfl|rfl|rfl|rfl|rfl
  ·exact absurd h1 (by decide)
  ·rfl
  ·exact absurd h1 (by decide)
  ·exact absurd h1 (by decide)
  ·exact absurd h1 (by decide)
theorem rest_one {d k:Nat} (hd:0 < d) (h:d ∣ 10 ^ k):restN d=1:=by
 obtain⟨a1,a2,a3⟩:=strip_spec 2 d (by decide) hd;obtain⟨b1,b2,b3⟩:=strip_spec 5 (stripN 2 d) (by decide) a3;have h1:restN d ∣ stripN 2 d:=⟨5 ^ cntN 5 (stripN 2 d),by
  show stripN 2 d=stripN 5 (stripN 2 d)*_;rw[Nat.mul_comm];exact b1⟩
 have h2:stripN 2 d ∣ d:=⟨2 ^ cntN 2 d,by rw[Nat.mul_comm];exact a1⟩
 have h3:restN d ∣ 10 ^ k:=Nat.dvd_trans (Nat.dvd_trans h1 h2) h;have c2:Nat.Coprime (restN d) 2:=cop_p (.inl rfl) fun e=>a2 (Nat.mod_eq_zero_of_dvd (Nat.dvd_trans (Nat.dvd_of_mod_eq_zero e) h1))
 have c5:Nat.Coprime (restN d) 5:=cop_p (.inr rfl) b2;have c10:Nat.Coprime (restN d) 10:=Nat.Coprime.mul_right c2 c5;exact Nat.Coprime.eq_one_of_dvd (Nat.Coprime.pow_right k c10) h3
theorem fracP_fine {s:List UInt8} {n d m:Int} (h:fracP s=(some (n,d),m)):In64 n∧In64 d∧fracB n d=true:=by
 unfold fracP at h;split at h
 ·cases h
 ·split at h
  ·cases h
  ·rename_i neg dg p hr
   split at h
   ·rename_i x hx
    simp only[Prod.mk.injEq,Option.some.injEq]at h;obtain⟨rfl,-⟩:=h;unfold parseF at hx;obtain⟨⟨h1,h2,h3,h4,h5⟩,h6⟩:=(frac_iff _ _ _ (p10 _) n d).1 hx;have i1:In64 n:=⟨by omega,by omega⟩
    have i2:In64 d:=⟨by omega,by omega⟩
    refine⟨i1,i2,?_⟩;have hrt:rightB n d=true:=(rightB_iff n d i1 i2).2 ⟨h1,h2,h3,h4,h5⟩;have hdv:d.natAbs ∣ 10 ^ (-p).toNat:=by
     have e:=congrArg Int.natAbs h6;rw[Int.natAbs_mul,Int.natAbs_mul]at e;have h7:d.natAbs ∣ n.natAbs*10 ^ (-p).toNat:=⟨(sgn neg (valL dg*10 ^ p.toNat)).natAbs,by
      rw[Nat.mul_comm d.natAbs,← e];simp⟩
     have hc:Nat.Coprime d.natAbs n.natAbs:=by
      unfold rightB at hrt;rw[Bool.and_eq_true,beq_iff_eq]at hrt;exact hrt.2
     exact Nat.Coprime.dvd_of_dvd_mul_left hc h7
    have hr1:=rest_one (by omega) hdv;unfold fracB;rw[hrt,Bool.true_and,Bool.not_eq_true',Bool.eq_false_iff];intro hcon;rw[List.contains_iff_mem]at hcon;unfold printL bodyL at hcon;rw[if_pos hr1]at hcon;rcases List.mem_append.1 hcon with h8|h8
    ·exact sgn_no n 47 h8 rfl
    ·split at h8
     ·exact dig_no (dec_digL _) 47 h8 rfl
     ·rcases List.mem_append.1 h8 with h9|h9
      ·exact dig_no (dec_digL _) 47 h9 rfl
      ·rcases List.mem_cons.1 h9 with h9|h9
       ·exact absurd h9 (by decide)
       ·rw[longD_pad _ _ _ (Nat.mod_lt _ (by omega))]at h9;exact dig_no (digL_pad _ _) 47 h9 rfl
   ·cases h
def TokV (t:TokD):Prop:=(t.kind=1→allN 0 t.text=true∧0 < t.text.length)∧(t.kind=3→mayN t.text=0)
theorem allN_tw:∀ (l:List UInt8) (k:Nat),k≠0→allN k (l.takeWhile ldC)=true
 | [],k,_=>rfl
 | a::l,k,hk=>by
  rw[List.takeWhile_cons];cases h:ldC a
  ·rfl
  ·show(okN k a && allN (k+1) (l.takeWhile ldC))=true;rw[allN_tw l (k+1) (by omega),Bool.and_true];unfold okN;unfold ldC at h;rw[Bool.or_eq_true]at h;rw[Bool.or_eq_true,Bool.and_eq_true];rcases h with h|h
   ·exact .inl h
   ·exact .inr ⟨by simp[hk],h⟩
theorem take_tw (l:List UInt8) (p:UInt8→Bool):l.take (l.takeWhile p).length=l.takeWhile p:=by
 obtain⟨r,hr⟩:=List.takeWhile_prefix p (l:=l)
 conv=>lhs;rw[← hr]
 rw[hr]
 conv=>lhs;arg 2;rw[← hr]
 rw[List.take_left]
theorem tok_v {s:List UInt8} (hne:s≠[]) {t:TokD} {m:Nat} (h:tokR s=.good t.kind t.text m):TokV t:=by
 obtain⟨c,u,rfl⟩:=List.exists_cons_of_ne_nil hne;obtain⟨k,x,L,C⟩:=t;dsimp only at h;rw[tok_bytes]at h;unfold TokV;dsimp only;split at h
 ·rename_i h1
  cases h
  refine⟨fun _=>?_,fun h=>absurd h (by decide)⟩;have hld:ldC c=true:=(by unfold ldC;rw[h1];rfl);have e:(c::u).take (nameN (c::u))=c::u.takeWhile ldC:=by
   unfold nameN;rw[take_tw,List.takeWhile_cons,hld];rfl
  rw[e];refine⟨?_,by simp⟩;show(okN 0 c && allN 1 (u.takeWhile ldC))=true;rw[allN_tw u 1 (by decide),Bool.and_true];unfold okN;rw[h1];rfl
 ·split at h
  ·split at h
   ·cases h
   ·cases h
    exact⟨fun h=>absurd h (by decide),fun h=>absurd h (by decide)⟩
  ·split at h
   ·have h2:=textR_may h;refine⟨fun h3=>?_,fun _=>h2⟩;subst h3;unfold textR at h;split at h
    ·cases h
    ·split at h
     ·split at h<;>cases h
     ·cases h
   ·split at h
    ·cases h
     exact⟨fun h=>absurd h (by decide),fun h=>absurd h (by decide)⟩
    ·split at h
     ·cases h
      exact⟨fun h=>absurd h (by decide),fun h=>absurd h (by decide)⟩
     ·cases h
def TsV (ts:List TokD):Prop:=∀ t∈ts,TokV t
theorem chain_v {s:List UInt8} {n:Nat} {l:List TokD} (h:Chain s n l):TsV l:=by
 induction h with
 | fin n q hn hb=>
  intro t ht;rw[List.mem_singleton]at ht;subst ht;exact⟨fun h=>absurd h (by show(0:Int)≠1;decide),fun h=>absurd h (by show(0:Int)≠3;decide)⟩
 | tok n i m t r hn hi hb ht hm hr ih=>
  intro x hx;rcases List.mem_cons.1 hx with rfl|hx
  ·exact tok_v (by intro h0;have:=congrArg List.length h0;rw[List.length_drop]at this;simp at this;omega) ht
  ·exact ih x hx
def Giv {α:Type} (p:List TokD→PR α) (Q:α→Prop):Prop:=∀ ts x r,TsV ts→p ts=.ok x r→TsV r∧Q x
theorem Giv.bind {α β:Type} {p:List TokD→PR α} {g:α→List TokD→PR β} {Q:α→Prop} {Q':β→Prop} (h:Giv p Q) (h':∀ y,Q y→Giv (g y) Q'):Giv (fun ts=>(p ts).bind g) Q':=fun ts x r hv e=>by
 obtain⟨y,t,e1,e2⟩:=bind_inv e;obtain⟨v1,q1⟩:=h _ _ _ hv e1;exact h' y q1 _ _ _ v1 e2
theorem Giv.pure {α:Type} {x:α} {Q:α→Prop} (h:Q x):Giv (fun ts=>.ok x ts) Q:=fun ts y r hv e=>by
 cases e
 exact⟨hv,h⟩
theorem TsV.tail {ts:List TokD} (h:TsV ts):TsV ts.tail:=fun t ht=>h t (List.mem_of_mem_tail ht)
theorem TsV.head {ts:List TokD} (h:TsV ts) (hk:(headT ts).kind≠0):TokV (headT ts):=by
 cases ts with
 | nil=>exact absurd rfl hk
 | cons t r=>exact h t (List.mem_cons_self ..)
theorem giv_must (w:List UInt8):Giv (mustR w) fun _=>True:=fun ts x r hv e=>by
 unfold mustR formR wrongR at e;split at e
 ·cases e;exact⟨hv.tail,trivial⟩
 ·cases e
theorem giv_name:Giv nameR fun x=>wordB x=true:=fun ts x r hv e=>by
 unfold nameR formR wrongR at e;split at e
 ·rename_i hn
  split at e
  ·rename_i hl
   cases e
   refine⟨hv.tail,?_⟩;unfold namedB at hn;rw[Bool.and_eq_true,Bool.not_eq_true',beq_iff_eq]at hn;obtain⟨h1,h2⟩:=(hv.head (by rw[hn.2];decide)).1 hn.2;unfold wordB nameB;rw[h1,decide_eq_true h2,decide_eq_true hl,show decide ((headT ts).text∈keyL)=false from hn.1];rfl
  ·cases e
 ·cases e
theorem giv_whole (below:Nat):Giv (wholeR below) fun n=>n < below:=fun ts x r hv e=>by
 have h1:=whole_lt e;unfold wholeR formR wrongR at e;split at e
 ·split at e
  ·cases e;exact⟨hv.tail,h1⟩
  ·cases e
 ·cases e
theorem giv_id:Giv idR fun x=>x.1 < 2147483648:=fun ts x r hv e=>by
 unfold idR at e;split at e
 ·rename_i n t hn
  cases e
  exact⟨((giv_whole _) _ _ _ hv hn).1,Nat.mod_lt _ (by decide)⟩
 ·cases e
theorem numP_lt {s:List UInt8}:(numP s).1 < 18446744073709551616:=by
 unfold numP;split
 ·rename_i u h
  have:=Lib.parseUintB_le h;show u < _;exact Nat.lt_of_le_of_lt this (by decide)
 ·decide
 ·decide
theorem giv_role:Giv roleR fun x=>rolB x.1 x.2=true∧x.2 < 18446744073709551616:=fun ts x r hv e=>by
 unfold roleR formR wrongR at e;split at e
 ·split at e
  ·cases e;exact⟨hv.tail,by decide,by decide⟩
  ·split at e
   ·cases e;exact⟨hv.tail,by unfold rolB;rfl,numP_lt⟩
   ·cases e
 ·cases e;exact⟨hv,by decide,by decide⟩
theorem giv_order:Giv orderR fun _=>True:=fun ts x r hv e=>by
 unfold orderR formR wrongR at e;split at e
 ·cases e;exact⟨hv.tail,trivial⟩
 ·cases e
theorem giv_frac:Giv fracR fun x=>In64 x.1∧In64 x.2∧fracB x.1 x.2=true:=fun ts x r hv e=>by
 unfold fracR formR wrongR at e;split at e
 ·split at e
  ·rename_i y m hy
   cases e
   exact⟨hv.tail,fracP_fine (n:=x.1) (d:=x.2) hy⟩
  ·cases e
 ·cases e
theorem giv_next:Giv (nextR 3) fun x=>mayN x.text=0:=fun ts x r hv e=>by
 unfold nextR formR wrongR at e;split at e
 ·rename_i hk
  cases e
  exact⟨hv.tail,(hv.head (by rw[hk.1];exact hk.2)).2 hk.1⟩
 ·cases e
theorem giv_to:∀ (f:Nat) (l:List (List UInt8)),l.all wordB=true→l≠[]→Giv (toF f l) fun r=>r.all wordB=true∧r≠[]
 | 0,l,h,h0=>fun ts x r hv e=>by cases e;exact⟨hv,h,h0⟩
 | f+1,l,h,h0=>fun ts x r hv e=>by
  unfold toF at e;split at e
  ·obtain⟨y,t,e1,e2⟩:=bind_inv e;obtain⟨v1,q1⟩:=giv_name _ _ _ hv.tail e1;exact giv_to f (l++[y]) (by rw[List.all_append,h];simp[q1]) (by simp) _ _ _ v1 e2
  ·cases e;exact⟨hv,h,h0⟩
structure SigV (x:SigX):Prop where
 ok:sxB x=true
 wf:SigWf x.d
theorem siz_of {n:Nat} (h:n < 2147483648):sizB (n:Int)=true:=by unfold sizB;rw[decide_eq_true_eq];omega
theorem wrd_len {x:List UInt8} (h:wordB x=true):x.length≤64:=by
 have:=(word_name h).1;unfold nameB at this;simp at this;exact this.2.2
theorem giv_sig:Giv sigR SigV:=by
 unfold sigR;refine Giv.bind (giv_must _) fun t _=>Giv.bind giv_name fun nm h1=>Giv.bind giv_role fun rb h2=>Giv.bind (giv_must _) fun _ _=>Giv.bind (giv_whole _) fun st h3=>Giv.bind (giv_must _) fun _ _=>Giv.bind (giv_whole _) fun sz h4=>Giv.bind giv_order fun o _=>
  Giv.bind (giv_must _) fun _ _=>Giv.bind giv_frac fun sc f1=>Giv.bind (giv_must _) fun _ _=>Giv.bind giv_frac fun of f2=>Giv.bind (giv_must _) fun _ _=>Giv.bind (giv_must _) fun _ _=>Giv.bind giv_frac fun mi f3=>Giv.bind (giv_must _) fun _ _=>Giv.bind giv_frac fun ma f4=>Giv.bind (giv_must _) fun _ _=>
  Giv.bind giv_next fun u h5=>Giv.bind giv_name fun n1 h6=>?_
 refine Giv.bind (Q:=fun r=>r.all wordB=true∧r≠[]) (fun ts x r hv e=>giv_to ts.length [n1] (by simp[h6]) (by simp) ts x r hv e) fun rcv h7=>Giv.pure ⟨?_,?_⟩
 ·unfold sxB sigB allF;dsimp only;rw[h2.1,f1.2.2,f2.2.2,f3.2.2,f4.2.2,h1,siz_of h3,siz_of h4,h7.1,show(mayN u.text == 0)=true by rw[h5];rfl];cases rcv with
  | nil=>exact absurd rfl h7.2
  | cons a l=>rfl
 ·have hro:In64 rb.1:=by
   have:=h2.1;unfold rolB at this;simp only[Bool.or_eq_true,Bool.and_eq_true,beq_iff_eq]at this;constructor<;>omega
  have hl:=wrd_len h1;have hu:=may_len h5;exact⟨hro,h2.2,⟨by dsimp only;omega,by dsimp only;omega⟩,⟨by dsimp only;omega,by dsimp only;omega⟩,f1.1,f1.2.1,f2.1,f2.2.1,f3.1,f3.2.1,f4.1,f4.2.1,by dsimp only;unfold maxLen;omega,by dsimp only;unfold maxLen;omega⟩
theorem giv_sgs:∀ (f:Nat) (l:List SigX),(∀ s∈l,SigV s)→l.length≤64→Giv (sgsF f l) fun r=>(∀ s∈r,SigV s)∧r.length≤64
 | 0,l,h,h0=>fun ts x r hv e=>by cases e;exact⟨hv,h,h0⟩
 | f+1,l,h,h0=>fun ts x r hv e=>by
  unfold sgsF wrongR at e;split at e
  ·split at e
   ·cases e
   ·rename_i hl
    obtain⟨y,t,e1,e2⟩:=bind_inv e;obtain⟨v1,q1⟩:=giv_sig _ _ _ hv e1;refine giv_sgs f (l++[y]) (fun s hs=>?_) (by simp;omega) _ _ _ v1 e2;rcases List.mem_append.1 hs with hs|hs
    ·exact h s hs
    ·rw[List.mem_singleton.1 hs];exact q1
  ·cases e;exact⟨hv,h,h0⟩
structure MsgV (m:MsgD):Prop where
 ok:msgB m=true
 wf:MsgWf m
theorem giv_msg:Giv messageR MsgV:=by
 unfold messageR;refine Giv.bind (giv_must _) fun t _=>Giv.bind giv_id fun i h1=>Giv.bind giv_name fun nm h2=>Giv.bind (giv_must _) fun _ _=>Giv.bind (giv_whole _) fun sz h3=>Giv.bind giv_name fun sd h4=>?_
 refine Giv.bind (Q:=fun r=>(∀ s∈r,SigV s)∧r.length≤64) (fun ts x r hv e=>giv_sgs ts.length [] (fun s hs=>by cases hs) (Nat.zero_le _) ts x r hv e) fun l h5=>Giv.pure ⟨?_,?_⟩
 ·unfold msgB numB;dsimp only;rw[decide_eq_true h1,h2,h4,siz_of h3,decide_eq_true h5.2];simp only[Bool.true_and];exact List.all_eq_true.2 fun s hs=>(h5.1 s hs).ok
 ·have l2:=wrd_len h2;have l4:=wrd_len h4;refine⟨by dsimp only;omega,⟨by dsimp only;omega,by dsimp only;omega⟩,by dsimp only;omega,by dsimp only;omega,fun s hs=>⟨(h5.1 s hs).wf,fun r hr=>?_⟩⟩;have hk:=(h5.1 s hs).ok;unfold sxB sigB at hk;simp only[Bool.and_eq_true]at hk;have:=wrd_len (List.all_eq_true.1 hk.2.2.2.2.2.2.2 r hr);omega
theorem giv_rows:∀ (f:Nat) (l:List (Int×List UInt8)),(∀ r∈l,In64 r.1∧mayN r.2=0)→l.length≤256→Giv (rowsF f l) fun r=>(∀ x∈r,In64 x.1∧mayN x.2=0)∧r.length≤256
 | 0,l,h,h0=>fun ts x r hv e=>by cases e;exact⟨hv,h,h0⟩
 | f+1,l,h,h0=>fun ts x r hv e=>by
  unfold rowsF wrongR at e;split at e
  ·split at e
   ·cases e
   ·rename_i v hi
    split at e
    ·cases e
    ·rename_i hl
     obtain⟨y,t,e1,e2⟩:=bind_inv e;obtain⟨v1,q1⟩:=giv_next _ _ _ hv.tail e1;have hv64:In64 v:=by
      unfold intP at hi;split at hi
      ·rename_i u hu
       have hb:=parseInt_bd hu;split at hi
       ·cases hi;exact⟨hb.1,by omega⟩
       ·cases hi
      ·cases hi
     refine giv_rows f (l++[(v,y.text)]) (fun s hs=>?_) (by simp;omega) _ _ _ v1 e2;rcases List.mem_append.1 hs with hs|hs
     ·exact h s hs
     ·rw[List.mem_singleton.1 hs];exact⟨hv64,q1⟩
  ·cases e;exact⟨hv,h,h0⟩
structure TabV (t:TabD):Prop where
 ok:tabB t=true
 wf:TabWf t
theorem giv_tab:Giv tableR TabV:=by
 unfold tableR;refine Giv.bind (giv_must _) fun t _=>Giv.bind giv_id fun i h1=>Giv.bind giv_name fun nm h2=>?_
 refine Giv.bind (Q:=fun r=>(∀ x∈r,In64 x.1∧mayN x.2=0)∧r.length≤256) (fun ts x r hv e=>giv_rows ts.length [] (fun s hs=>by cases hs) (Nat.zero_le _) ts x r hv e) fun l h3=>Giv.bind (giv_must _) fun _ _=>Giv.pure ⟨?_,?_⟩
 ·unfold tabB numB;dsimp only;rw[decide_eq_true h1,h2,decide_eq_true h3.2];simp only[Bool.true_and];exact List.all_eq_true.2 fun s hs=>by unfold rowB;rw[(h3.1 s hs).2];rfl
 ·have l2:=wrd_len h2;exact⟨by dsimp only;omega,by dsimp only;omega,fun r hr=>⟨(h3.1 r hr).1,by have:=may_len (h3.1 r hr).2;omega⟩⟩
theorem giv_nams:∀ (f:Nat) (l:List (List UInt8)),l.all wordB=true→Giv (namsF f l) fun r=>r.all wordB=true
 | 0,l,h=>fun ts x r hv e=>by cases e;exact⟨hv,h⟩
 | f+1,l,h=>fun ts x r hv e=>by
  unfold namsF at e;split at e
  ·obtain⟨y,t,e1,e2⟩:=bind_inv e;obtain⟨v1,q1⟩:=giv_name _ _ _ hv e1;exact giv_nams f (l++[y]) (by rw[List.all_append,h];simp[q1]) _ _ _ v1 e2
  ·cases e;exact⟨hv,h⟩
theorem giv_skip:∀ (f:Nat),Giv (skipF f) fun _=>True
 | 0=>fun ts x r hv e=>by cases e;exact⟨hv,trivial⟩
 | f+1=>fun ts x r hv e=>by
  unfold skipF at e;split at e
  ·cases e;exact⟨hv,trivial⟩
  ·cases hn:nextR (headT ts).kind ts with
   | bad a b c=>rw[hn]at e;cases e
   | ok y t=>
    rw[hn]at e;have hv2:TsV t:=by
     unfold nextR formR wrongR at hn;split at hn
     ·cases hn;exact hv.tail
     ·cases hn
    exact giv_skip f _ _ _ hv2 e
theorem giv_comm:∀ (f:Nat),Giv (commF f) fun _=>True
 | 0=>fun ts x r hv e=>by cases e;exact⟨hv,trivial⟩
 | f+1=>fun ts x r hv e=>by
  rw[commF_succ]at e;split at e
  ·cases hs:skipF ts.tail.length ts.tail with
   | bad a b c=>rw[hs]at e;cases e
   | ok u t=>
    rw[hs]at e;obtain⟨v1,-⟩:=giv_skip _ _ _ _ hv.tail hs;unfold afterS at e;dsimp only at e;cases hm:mustR [59] t with
    | bad a b c=>rw[hm]at e;cases e
    | ok x2 t2=>
     rw[hm]at e;exact giv_comm f _ _ _ (giv_must _ _ _ _ v1 hm).1 e
  ·cases e;exact⟨hv,trivial⟩
theorem giv_comments:Giv commentsR fun _=>True:=fun ts x r hv e=>giv_comm ts.length ts x r hv e
theorem giv_mss:∀ (f:Nat) (l:List MsgD),(∀ m∈l,MsgV m)→l.length≤512→Giv (mssD f l) fun r=>(∀ m∈r,MsgV m)∧r.length≤512
 | 0,l,h,h0=>fun ts x r hv e=>by cases e;exact⟨hv,h,h0⟩
 | f+1,l,h,h0=>fun ts x r hv e=>by
  unfold mssD wrongR at e;split at e
  ·split at e
   ·cases e
   ·rename_i hl
    obtain⟨y,t,e1,e2⟩:=bind_inv e;obtain⟨v1,q1⟩:=giv_msg _ _ _ hv e1;obtain⟨z,t2,e3,e4⟩:=bind_inv e2;obtain⟨v2,-⟩:=giv_comments _ _ _ v1 e3;refine giv_mss f (l++[y]) (fun s hs=>?_) (by simp;omega) _ _ _ v2 e4;rcases List.mem_append.1 hs with hs|hs
    ·exact h s hs
    ·rw[List.mem_singleton.1 hs];exact q1
  ·cases e;exact⟨hv,h,h0⟩
theorem giv_tbs:∀ (f:Nat) (l:List TabD),(∀ m∈l,TabV m)→Giv (tbsD f l) fun r=>∀ m∈r,TabV m
 | 0,l,h=>fun ts x r hv e=>by cases e;exact⟨hv,h⟩
 | f+1,l,h=>fun ts x r hv e=>by
  unfold tbsD at e;split at e
  ·obtain⟨y,t,e1,e2⟩:=bind_inv e;obtain⟨v1,q1⟩:=giv_tab _ _ _ hv e1;obtain⟨z,t2,e3,e4⟩:=bind_inv e2;obtain⟨v2,-⟩:=giv_comments _ _ _ v1 e3;refine giv_tbs f (l++[y]) (fun s hs=>?_) _ _ _ v2 e4;rcases List.mem_append.1 hs with hs|hs
   ·exact h s hs
   ·rw[List.mem_singleton.1 hs];exact q1
  ·cases e;exact⟨hv,h⟩
structure DbV (d:DbD):Prop where
 ok:dbB d=true
 wf:DbWf d
theorem giv_ver:Giv verX fun x=>(x.1=true→mayN x.2.text=0)∧(x.1=false→x.2.text=[]):=fun ts x r hv e=>by
 unfold verX at e;split at e
 ·obtain⟨y,t,e1,e2⟩:=bind_inv e;obtain⟨v1,q1⟩:=giv_next _ _ _ hv.tail e1;obtain⟨z,t2,e3,e4⟩:=bind_inv e2;obtain⟨v2,-⟩:=giv_comments _ _ _ v1 e3;cases e4
  exact⟨v2,⟨fun _=>q1,fun h=>by cases h⟩⟩
 ·cases e
  exact⟨hv,⟨fun h=>(by cases (show false=true from h)),fun _=>rfl⟩⟩
theorem giv_db:Giv dbR DbV:=by
 unfold dbR;refine Giv.bind giv_comments fun _ _=>Giv.bind giv_ver fun v h1=>Giv.bind (giv_must _) fun t _=>Giv.bind (giv_must _) fun _ _=>?_
 refine Giv.bind (Q:=fun r=>r.all wordB=true) (fun ts x r hv e=>giv_nams ts.length [] rfl ts x r hv e) fun ns h2=>Giv.bind giv_comments fun _ _=>?_
 refine Giv.bind (Q:=fun r=>(∀ m∈r,MsgV m)∧r.length≤512) (fun ts x r hv e=>giv_mss ts.length [] (fun s hs=>by cases hs) (Nat.zero_le _) ts x r hv e) fun ms h3=>?_
 refine Giv.bind (Q:=fun r=>∀ m∈r,TabV m) (fun ts x r hv e=>giv_tbs ts.length [] (fun s hs=>by cases hs) ts x r hv e) fun tb h4=>?_
 intro ts x r hv e;dsimp only at e;unfold endD formR wrongR at e;split at e
 ·cases e
  refine⟨hv,?_,?_⟩
  ·unfold dbB staB;dsimp only;rw[h2,decide_eq_true h3.2,show ms.all msgB=true from List.all_eq_true.2 fun m hm=>(h3.1 m hm).ok,show tb.all tabB=true from List.all_eq_true.2 fun m hm=>(h4 m hm).ok];cases hh:v.1
   ·rfl
   ·show(!true || verB v.2) && true=true;unfold verB;rw[h1.1 hh];rfl
  ·refine⟨?_,fun r hr=>by have:=wrd_len (List.all_eq_true.1 h2 r hr);omega,fun m hm=>(h3.1 m hm).wf,fun t ht=>(h4 t ht).wf⟩;show v.2.text.length≤_;cases hh:v.1
   ·rw[h1.2 hh];exact Nat.zero_le _
   ·have:=may_len (h1.1 hh);omega
 ·cases e
theorem db_v {s:List UInt8} {T r:List TokD} {d:DbD} (hw:scanL s=.good T) (hd:dbR T=.ok d r):DbV d:=(giv_db _ _ _ (chain_v (scanL_chain hw)) hd).2
theorem read_back {s:List UInt8} {T r:List TokD} {d:DbD} (hw:scanL s=.good T) (hd:dbR T=.ok d r):filN d=5∨filN d=0∧∃ d',DbBd d' 1048577∧VerOK d'∧fileR (filT d)=.good (nodsD d')∧bareD d' = bareD d:=by
 have h:=db_v hw hd;by_cases hl:(dbT d).length≤1048576
 ·obtain⟨g1,g2⟩:=fil_good d h.ok hl;obtain⟨d',k1,k2,k3,k4⟩:=back_file h.ok (wf_64 h.wf) hl;exact .inr ⟨g1,d',k1,k2,by rw[g2];exact k3,k4⟩
 ·exact .inl (fil_long d h.ok hl).1
end Go.Proofs.YtkblpaabknjckaaGreatDoor
