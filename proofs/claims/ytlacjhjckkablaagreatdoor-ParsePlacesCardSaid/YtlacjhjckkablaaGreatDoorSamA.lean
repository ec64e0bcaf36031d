/-
  Are two databases the same? Contracts of the reference's looks, at equal data. (Printed by gen_sam.py.)
-/
import Derived.Test.YtlacjhjckkablaaGreatDoorCopC
import Derived.Test.YtlacjhjckkablaaGreatDoorRedK
import Derived.Test.YtlacjhjckkablaaGreatDoorRlxH
import Derived.Test.YtlacjhjckkablaaGreatDoorBaseD
import Derived.Test.YtlacjhjckkablaaGreatDoorHeldP
import Derived.Test.YtlacjhjckkablaaGreatDoorCalm
import Derived.BigQuiet
set_option maxHeartbeats 128000000
set_option linter.unusedVariables false
namespace Go.Proofs.YtlacjhjckkablaaGreatDoor
open Go.Proofs.Tryz
open Go.RowKit
theorem DbD.cells_one (d:DbD) (a b c:Option Addr) (n1 n2 n3 c1 c2 c3:Nat):(d.cells (.slice a n1 c1) (.slice b n2 c2) (.slice c n3 c3)).all (·.oneCell')=true:=by unfold DbD.cells;simp[Value.oneCell']
abbrev zeroDb:Array Value:=#[.bool false,.int .i64 0,.int .i64 0,.string ⟨#[]⟩,.int .i64 0,.int .i64 0,.slice none 0 0,.slice none 0 0,.slice none 0 0]
theorem db_size:(prog.info? 37).map (·.size)=some 9:=by kernel_rfl
theorem below_set {B:Nat} {a w:World} (h:Below B a w) {k:Nat} (hk:B≤k) (j:Nat) (v:Value):Below B a (w.setCell ⟨k,j,none⟩ v):=h.setCell (by show B≤k;exact hk) v
open Go.RowKit Go.Shelf
def verX (ts:List TokD):PR (Bool×VerD):=
 if seesB [86,69,82,83,73,79,78] ts then (nextR 3 ts.tail).bind fun x ts'=>(commentsR ts').bind fun _ ts''=>.ok (true,⟨(headT ts).line,(headT ts).col,x.text⟩) ts'' else .ok (false,⟨0,0,[]⟩) ts
def mssD:Nat→List MsgD→List TokD→PR (List MsgD)
 | 0,l,ts=>.ok l ts
 | f+1,l,ts=>if seesB [66,79,95] ts then (if l.length=512 then wrongR 5 ts else (messageR ts).bind fun m ts'=>(commentsR ts').bind fun _ ts''=>mssD f (l++[m]) ts'') else .ok l ts
def tbsD:Nat→List TabD→List TokD→PR (List TabD)
 | 0,l,ts=>.ok l ts
 | f+1,l,ts=>if seesB [86,65,76,95] ts then (tableR ts).bind fun m ts'=>(commentsR ts').bind fun _ ts''=>tbsD f (l++[m]) ts'' else .ok l ts
def endD (d:DbD) (ts:List TokD):PR DbD:=if (headT ts).kind=0 then .ok d ts else formR ts
def dbR (ts:List TokD):PR DbD:=
 (commentsR ts).bind fun _ ts=>(verX ts).bind fun v ts=>(mustR [66,85,95] ts).bind fun t ts=>(mustR [58] ts).bind fun _ ts=>
 (namsF ts.length [] ts).bind fun ns ts=>(commentsR ts).bind fun _ ts=>(mssD ts.length [] ts).bind fun ms ts=>
 (tbsD ts.length [] ts).bind fun tb ts=>endD ⟨v.1,v.2,⟨t.line,t.col,ns⟩,ms,tb⟩ ts
def nodsD (d:DbD):List NodeD:=(if d.has then [.ver d.ver] else [])++(.sta d.sta::(d.msgs.map .msg++d.tabs.map .tab))
def PR.map {α β:Type} (g:α→β):PR α→PR β
 | .ok x t=>.ok (g x) t
 | .bad a b c=>.bad a b c
theorem ver_map (ts:List TokD):verR ts=(verX ts).map fun v=>if v.1 then [.ver v.2] else []:=by
 unfold verR verX;split
 ·cases nextR 3 ts.tail with
  | bad a b c=>rfl
  | ok x t=>
   simp only[PR.bind_ok];cases commentsR t<;>rfl
 ·rfl
theorem mss_map (pre:List NodeD):∀ (f:Nat) (l:List MsgD) (ts:List TokD),mssF f l.length (pre++l.map .msg) ts=(mssD f l ts).map fun r=>pre++r.map .msg
 | 0,l,ts=>rfl
 | f+1,l,ts=>by
  unfold mssF mssD;split
  ·split
   ·rfl
   ·cases messageR ts with
    | bad a b c=>rfl
    | ok m t=>
     simp only[PR.bind_ok];cases commentsR t with
     | bad a b c=>rfl
     | ok u t2=>
      simp only[PR.bind_ok];have:=mss_map pre f (l++[m]) t2;simp only[List.length_append,List.length_cons,List.length_nil,List.map_append,List.map_cons,List.map_nil,Nat.zero_add]at this;rw[List.append_assoc];exact this
  ·rfl
theorem tbs_map (pre:List NodeD):∀ (f:Nat) (l:List TabD) (ts:List TokD),tbsF f (pre++l.map .tab) ts=(tbsD f l ts).map fun r=>pre++r.map .tab
 | 0,l,ts=>rfl
 | f+1,l,ts=>by
  unfold tbsF tbsD;split
  ·cases tableR ts with
   | bad a b c=>rfl
   | ok m t=>
    simp only[PR.bind_ok];cases commentsR t with
    | bad a b c=>rfl
    | ok u t2=>
     simp only[PR.bind_ok];have:=tbs_map pre f (l++[m]) t2;simp only[List.map_append,List.map_cons,List.map_nil]at this;rw[List.append_assoc];exact this
  ·rfl
theorem source_db (ts:List TokD):sourceR ts=(dbR ts).map nodsD:=by
 unfold sourceR dbR;cases commentsR ts with
 | bad a b c=>rfl
 | ok u0 ts=>
 simp only[PR.bind_ok];rw[ver_map];cases verX ts with
 | bad a b c=>rfl
 | ok v ts=>
 simp only[PR.bind_ok,PR.map];cases mustR [66,85,95] ts with
 | bad a b c=>rfl
 | ok t ts=>
 simp only[PR.bind_ok];cases mustR [58] ts with
 | bad a b c=>rfl
 | ok t1 ts=>
 simp only[PR.bind_ok];cases namsF ts.length [] ts with
 | bad a b c=>rfl
 | ok ns ts=>
 simp only[PR.bind_ok];cases commentsR ts with
 | bad a b c=>rfl
 | ok u1 ts=>
 simp only[PR.bind_ok];have h1:=mss_map ((if v.1 then [NodeD.ver v.2] else [])++[NodeD.sta ⟨t.line,t.col,ns⟩]) ts.length [] ts;rw[List.map_nil,List.append_nil,List.length_nil]at h1;rw[h1];cases mssD ts.length [] ts with
 | bad a b c=>rfl
 | ok ms ts=>
 simp only[PR.bind_ok,PR.map];have h2:=tbs_map ((if v.1 then [NodeD.ver v.2] else [])++[NodeD.sta ⟨t.line,t.col,ns⟩]++ms.map NodeD.msg) ts.length [] ts;rw[List.map_nil,List.append_nil]at h2;rw[h2];cases tbsD ts.length [] ts with
 | bad a b c=>rfl
 | ok tb ts=>
 simp only[PR.bind_ok,PR.map];unfold endR endD formR wrongR nodsD;split
 ·simp
 ·rfl
theorem bind_assoc {α β γ:Type} (r:PR α) (f:α→List TokD→PR β) (g:β→List TokD→PR γ):(r.bind f).bind g=r.bind fun x ts=>(f x ts).bind g:=by
 cases r<;>rfl
theorem run_at {α:Type} {ts:List TokD} {d:α} {p p':List TokD→PR α} (h:p ts=p' ts):(RSt.ok ts).run d p=(RSt.ok ts).run d p':=by
 unfold RSt.run;simp only[h]
theorem run_nam_stop {β:Type} {st:RSt} {f:Nat} {l:List (List UInt8)} (d:β) (KF:List (List UInt8)→List TokD→PR β) (hf:∀ ts,st=.ok ts→1≤f) (h:st.named=false):st.run d (fun ts=>(namsF f l ts).bind KF)=st.run d (KF l):=by
 cases st with
 | bad n l c=>rfl
 | ok ts=>
  obtain⟨f',rfl⟩:∃ f',f=f' + 1:=⟨f - 1,by have:=hf ts rfl;omega⟩
  have h:namedB ts=false:=h;refine run_at ?_;show(namsF (f' + 1) l ts).bind KF=KF l ts;rw[show namsF (f' + 1) l ts=.ok l ts by unfold namsF;rw[if_neg (by rw[h];decide)]];rfl
theorem run_nam_go {β:Type} {ts:List TokD} {f:Nat} {l:List (List UInt8)} (d:β) (KF:List (List UInt8)→List TokD→PR β) (h:namedB ts=true):(RSt.ok ts).run d (fun ts=>(namsF (f+1) l ts).bind KF)=((RSt.ok ts).run [] nameR).2.run d (fun tz=>(namsF f (l++[((RSt.ok ts).run [] nameR).1]) tz).bind KF):=by
 have e:=run_bind (RSt.ok ts) [] d nameR (fun nm tz=>(namsF f (l++[nm]) tz).bind KF);rw[← e];refine run_at ?_;show(namsF (f+1) l ts).bind KF=_;have ht:namsF (f+1) l ts=(nameR ts).bind fun nm ts'=>namsF f (l++[nm]) ts':=by
  conv=>lhs;unfold namsF
  rw[if_pos h]
 rw[ht];exact bind_assoc _ _ _
theorem run_ver_no {β:Type} {st:RSt} (d:β) (KF:Bool×VerD→List TokD→PR β) (h:∀ ts,st=.ok ts→seesB [86,69,82,83,73,79,78] ts=false):st.run d (fun ts=>(verX ts).bind KF)=st.run d (KF (false,⟨0,0,[]⟩)):=by
 cases st with
 | bad n l c=>rfl
 | ok ts=>
  refine run_at ?_;show(verX ts).bind KF=_;rw[show verX ts=.ok (false,⟨0,0,[]⟩) ts by unfold verX;rw[if_neg (by rw[h ts rfl];decide)]];rfl
theorem run_ver_yes {β:Type} {ts:List TokD} (d:β) (KF:Bool×VerD→List TokD→PR β) (h:seesB [86,69,82,83,73,79,78] ts=true) :
  (RSt.ok ts).run d (fun ts=>(verX ts).bind KF)=(RSt.ok ts.tail).run d (fun tz=>(nextR 3 tz).bind fun x tz=>(commentsR tz).bind fun _ tz=>KF (true,⟨(headT ts).line,(headT ts).col,x.text⟩) tz):=by
 unfold RSt.run;simp only;rw[show verX ts=(nextR 3 ts.tail).bind fun x ts'=>(commentsR ts').bind fun _ ts''=>.ok (true,⟨(headT ts).line,(headT ts).col,x.text⟩) ts'' by unfold verX;rw[if_pos h]];rw[bind_assoc];simp only[bind_assoc,PR.bind_ok]
theorem run_mss_stop {β:Type} {st:RSt} {f:Nat} {l:List MsgD} (d:β) (KF:List MsgD→List TokD→PR β) (hf:∀ ts,st=.ok ts→1≤f) (h:∀ ts,st=.ok ts→seesB [66,79,95] ts=false):st.run d (fun ts=>(mssD f l ts).bind KF)=st.run d (KF l):=by
 cases st with
 | bad n l c=>rfl
 | ok ts=>
  obtain⟨f',rfl⟩:∃ f',f=f' + 1:=⟨f - 1,by have:=hf ts rfl;omega⟩
  refine run_at ?_;show(mssD (f' + 1) l ts).bind KF=KF l ts;rw[show mssD (f' + 1) l ts=.ok l ts by unfold mssD;rw[if_neg (by rw[h ts rfl];decide)]];rfl
theorem run_mss_many {β:Type} {ts:List TokD} {f:Nat} {l:List MsgD} (d:β) (KF:List MsgD→List TokD→PR β) (h:seesB [66,79,95] ts=true) (hl:l.length=512):(RSt.ok ts).run d (fun ts=>(mssD (f+1) l ts).bind KF)=(d,(RSt.ok ts).wrong 5):=by
 unfold RSt.run;simp only;rw[show mssD (f+1) l ts=wrongR 5 ts by unfold mssD;rw[if_pos h,if_pos hl]];rfl
theorem run_swap {α β:Type} {q:RSt} (x y:α) (hx:q.isOk→x=y) (d:β) (F:α→List TokD→PR β):(q.run () commentsR).2.run d (F x)=(q.run () commentsR).2.run d (F y):=by
 by_cases h:q.isOk
 ·rw[hx h]
 ·cases q with
  | ok ts=>exact absurd trivial h
  | bad a b c=>rfl
theorem run_mss_go {β:Type} {ts:List TokD} {f:Nat} {l:List MsgD} (d:β) (KF:List MsgD→List TokD→PR β) (h:seesB [66,79,95] ts=true) (hl:l.length≠512) (x:MsgD) (hx:((RSt.ok ts).run msgX0 messageR).2.isOk→((RSt.ok ts).run msgX0 messageR).1=x) :
  (RSt.ok ts).run d (fun ts=>(mssD (f+1) l ts).bind KF)=(((RSt.ok ts).run msgX0 messageR).2.run () commentsR).2.run d (fun tz=>(mssD f (l++[x]) tz).bind KF):=by
 have e:=run_bind (RSt.ok ts) msgX0 d messageR (fun m tz=>(commentsR tz).bind fun _ tz=>(mssD f (l++[m]) tz).bind KF);rw[run_bind _ () d commentsR]at e;rw[← run_swap _ _ hx d (fun m tz=>(mssD f (l++[m]) tz).bind KF),← e];refine run_at ?_;show(mssD (f+1) l ts).bind KF=_;have ht:mssD (f+1) l ts=(messageR ts).bind fun m ts'=>(commentsR ts').bind fun _ ts''=>mssD f (l++[m]) ts'':=by
  conv=>lhs;unfold mssD
  rw[if_pos h,if_neg hl]
 rw[ht];simp only[bind_assoc]
theorem run_tbs_stop {β:Type} {st:RSt} {f:Nat} {l:List TabD} (d:β) (KF:List TabD→List TokD→PR β) (hf:∀ ts,st=.ok ts→1≤f) (h:∀ ts,st=.ok ts→seesB [86,65,76,95] ts=false):st.run d (fun ts=>(tbsD f l ts).bind KF)=st.run d (KF l):=by
 cases st with
 | bad n l c=>rfl
 | ok ts=>
  obtain⟨f',rfl⟩:∃ f',f=f' + 1:=⟨f - 1,by have:=hf ts rfl;omega⟩
  refine run_at ?_;show(tbsD (f' + 1) l ts).bind KF=KF l ts;rw[show tbsD (f' + 1) l ts=.ok l ts by unfold tbsD;rw[if_neg (by rw[h ts rfl];decide)]];rfl
theorem run_tbs_go {β:Type} {ts:List TokD} {f:Nat} {l:List TabD} (d:β) (KF:List TabD→List TokD→PR β) (h:seesB [86,65,76,95] ts=true) (x:TabD) (hx:((RSt.ok ts).run tabX0 tableR).2.isOk→((RSt.ok ts).run tabX0 tableR).1=x) :
  (RSt.ok ts).run d (fun ts=>(tbsD (f+1) l ts).bind KF)=(((RSt.ok ts).run tabX0 tableR).2.run () commentsR).2.run d (fun tz=>(tbsD f (l++[x]) tz).bind KF):=by
 have e:=run_bind (RSt.ok ts) tabX0 d tableR (fun m tz=>(commentsR tz).bind fun _ tz=>(tbsD f (l++[m]) tz).bind KF);rw[run_bind _ () d commentsR]at e;rw[← run_swap _ _ hx d (fun m tz=>(tbsD f (l++[m]) tz).bind KF),← e];refine run_at ?_;show(tbsD (f+1) l ts).bind KF=_;have ht:tbsD (f+1) l ts=(tableR ts).bind fun m ts'=>(commentsR ts').bind fun _ ts''=>tbsD f (l++[m]) ts'':=by
  conv=>lhs;unfold tbsD
  rw[if_pos h]
 rw[ht];simp only[bind_assoc]
theorem run_less {α:Type} {ts ts':List TokD} {d:α} {p:List TokD→PR α} (hp:Takes p) (hb:TsB ts) (h:(((RSt.ok ts).run d p).2.run () commentsR).2=.ok ts'):ts'.length < ts.length:=by
 cases hq:((RSt.ok ts).run d p).2 with
 | bad a b c=>rw[hq]at h;cases h
 | ok tz=>
  rw[hq]at h;obtain⟨x,h1⟩:=run_ok2 hq;obtain⟨y,h2⟩:=run_ok2 h;obtain⟨b1,l1⟩:=hp _ _ _ h1 hb;obtain⟨b2,l2⟩:=comm_ok2 h2 b1;omega
theorem two_left {ts:List TokD} (h:TsB ts) (hk:(headT ts).kind≠0):2≤ts.length:=by
 have h1:=(h.tail hk).1.pos;rw[List.length_tail]at h1;omega
theorem named_kind2 {ts:List TokD} (h:namedB ts=true):(headT ts).kind≠0:=by
 unfold namedB at h;intro e;rw[e]at h;simp at h
def RetDb (wo:World) (r:ScanR) (e:Ending) (w':World):Prop:=match r with
 | .bad v=>∃ no L C,e=.returned (.tuple #[.agg zeroDb,.int .i64 no,.agg #[.int .i64 L,.int .i64 C]])∧Below wo.heap.size wo w'∧ErrAt v no L C
 | .good T=>match dbR T with
  | .bad no L C=>e=.returned (.tuple #[.agg zeroDb,.int .i64 no,.agg #[.int .i64 L,.int .i64 C]])∧Below wo.heap.size wo w'
  | .ok d _=>∃ D,e=.returned (.tuple #[.agg D,.int .i64 0,.agg #[.int .i64 0,.int .i64 0]])∧fdDbN wo.heap.size w' d D.toList∧Below wo.heap.size wo w'
theorem wpQuiet_loadR {P:Program} {ops:Array Oper} {C:World→Prop} {Q:Act→Prop} {rest:List Oper} {o:Oper} {a:Act} {k off:Nat} {cs:List Value} (hS:∀ w,C w→w.rangeAt k off cs) (ty:TypeId) (x:Operand) {d:TypeDesc}
  (hu:P.underlying ty=some d) (hi:(P.info? ty).map (·.size)=some cs.length)
  (h:wpQuiet P ops C Q rest (a.put o.dst (.agg cs.toArray)))
  (hgd:o.guard=none:=by rfl) (ho:o.op=.load ty x:=by rfl) (hx:a.eval x=.pointer (some ⟨k,off,none⟩):=by rfl) (hd:d.isRow=true:=by rfl):wpQuiet P ops C Q (o::rest) a:=by
 unfold wpQuiet;rw[if_pos (by simp[Region.wanted,hgd])];refine⟨_,fun w hw=>?_,h⟩;unfold Oper.quietAt execOp;simp only[ho,hx,Instr.loadAt,Instr.sureAddr,Sem.run_bind,Sem.run_pure,Result.andThen_ok,run_loadVar_mid (P:=P) w k off ty cs d (hS w hw) hu hd hi];exact⟨rfl,rfl⟩
theorem Later.range {W:World} {k off:Nat} {cs:List Value} (h:W.rangeAt k off cs) (x:Later W):x.w.rangeAt k off cs:=fun j v hv=>Later.cell (h j v hv) x
theorem sameTx_any (l:List (List UInt8)) (n m:Nat) (hn:n=l.length) (hm:m=l.length) (a b:Option Addr) (p q:Nat) (w:World) (hs:SlOf w enTx 1 a p l) (ht:SlOf w enTx 1 b q l) :
  Calls prog 88 #[.slice a n p,.slice b m q] w fun e w'=>e=.returned (.bool true)∧Below w.heap.size w w':=by
 subst hm;subst hn;have h1:=hs.len;have h2:=ht.len;go_enter func88,ntmps88
 go_wp2_with fail;go_loopw [5] (fun x wr=>∃ i:Nat,i≤l.length∧x=.int .i64 (i:Nat)∧Below w.heap.size w wr) (fun x _=>l.length - (intOf x).toNat)
 case atStart=>exact⟨0,Nat.zero_le _,rfl,Below.refl _ _⟩
 case round=>
  obtain⟨i,hi,rfl,hb⟩:=hrel;by_cases hlt:(i:Int) < l.length
  ·have hlt':i < l.length:=(by omega);obtain⟨ba,oa,rfl,hba,hc⟩:=SlX.at (hs.keep hb lrf) hlt';obtain⟨bb,ob,rfl,hbb,hd⟩:=SlX.at (ht.keep hb lrf) hlt';generalize l[i]=x at *;go_wp2_with fail;go_quiet (fail)
   go_wp2_with fail;go_roundw;case rel=>exact⟨i+1,by omega,by go_num,Go.below_drewN hb _⟩
   case measure=>simp[intOf];omega
  ·go_wp2_with fail;go_ret;exact⟨rfl,hb⟩
theorem sameRw_any (l:List (Int×List UInt8)) (n m:Nat) (hn:n=l.length) (hm:m=l.length) (a b:Option Addr) (p q:Nat) (w:World) (hs:SlOf w enRw 2 a p l) (ht:SlOf w enRw 2 b q l) :
  Calls prog 90 #[.slice a n p,.slice b m q] w fun e w'=>e=.returned (.bool true)∧Below w.heap.size w w':=by
 subst hm;subst hn;have h1:=hs.len;have h2:=ht.len;go_enter func90,ntmps90
 go_wp2_with fail;go_loopw [5] (fun x wr=>∃ i:Nat,i≤l.length∧x=.int .i64 (i:Nat)∧Below w.heap.size w wr) (fun x _=>l.length - (intOf x).toNat)
 case atStart=>exact⟨0,Nat.zero_le _,rfl,Below.refl _ _⟩
 case round=>
  obtain⟨i,hi,rfl,hb⟩:=hrel;by_cases hlt:(i:Int) < l.length
  ·have hlt':i < l.length:=(by omega);obtain⟨ba,oa,rfl,hba,hc,hc2⟩:=SlRw.at (hs.keep hb lrf) hlt';obtain⟨bb,ob,rfl,hbb,hd,hd2⟩:=SlRw.at (ht.keep hb lrf) hlt';generalize l[i]=x at *;go_wp2_with fail;go_quiet (fail)
   go_wp2_with fail;go_roundw;case rel=>exact⟨i+1,by omega,by go_num,Go.below_drewN hb _⟩
   case measure=>simp[intOf];omega
  ·go_wp2_with fail;go_ret;exact⟨rfl,hb⟩
set_option maxRecDepth 100000 in theorem sameSig_any (x : SigX) (w : World) (cs ds : Array Value) (h1 : rdSig w x cs.toList) (h2 : rdSig w x ds.toList) :
  Calls prog 141 #[.agg cs,.agg ds] w fun e w'=>e=.returned (.bool true)∧Below w.heap.size w w':=by
 obtain⟨a,p,e1,hs⟩:=h1;obtain⟨b,q,e2,ht⟩:=h2;obtain rfl:=Array.toList_inj.1 e1;obtain rfl:=Array.toList_inj.1 e2;clear e1 e2;have hb2:∀ o1 o2,Below w.heap.size w ((w.alloc o1).alloc o2):=fun o1 o2=>((Below.refl w.heap.size w).alloc lrf o1).alloc (by simp) o2
 have HC:=Qh (fun o1 o2=>sameTx_any x.rs x.rs.length x.rs.length rfl rfl a b p q _ (hs.keep (hb2 o1 o2) lrf) (ht.keep (hb2 o1 o2) lrf));have HB:=Qh hb2;clear hs ht hb2;generalize x.rs.length=n at *;unfold SigD.cells;go_enter func141,ntmps141
 go_wp2_with fail;with_reducible refine(HC.out _ _).mono ?_
 rintro e w1 ⟨rfl,hb⟩;have hb3:=bstep (HB.out _ _) hb (by simp);go_wp2_with fail;go_ret;exact⟨rfl,hb3⟩
set_option maxRecDepth 100000 in theorem sameSigs_any (l : List SigX) (n m : Nat) (hn : n = l.length) (hm : m = l.length) (a b : Option Addr) (p q : Nat) (w : World) (hs : SlRd w rdSig 19 a p l) (ht : SlRd w rdSig 19 b q l) :
  Calls prog 89 #[.slice a n p,.slice b m q] w fun e w'=>e=.returned (.bool true)∧Below w.heap.size w w':=by
 subst hm;subst hn;have hmx:l.length≤9223372036854775807:=by
  obtain⟨rows,h1,h2⟩:=hs;have:=h1.len.2.1;have:=h2.len;omega
 have hu:=underlying82;go_enter func89,ntmps89
 go_wp2_with fail;go_loopw [5] (fun x wr=>∃ i:Nat,i≤l.length∧x=.int .i64 (i:Nat)∧Below w.heap.size w wr) (fun x _=>l.length - (intOf x).toNat)
 case atStart=>exact⟨0,Nat.zero_le _,rfl,Below.refl _ _⟩
 case round=>
  obtain⟨i,hi,rfl,hb⟩:=hrel;by_cases hlt:(i:Int) < l.length
  ·have hlt':i < l.length:=(by omega);obtain⟨ba,oa,rfl,hba,cs,hcl,hrd,hrg⟩:=SlRd.at (hs.keep last_rdSig hb) (by decide) hlt';obtain⟨bb,ob,rfl,hbb,ds,hdl,hrd',hrg'⟩:=SlRd.at (ht.keep last_rdSig hb) (by decide) hlt';have c:=fun z:Later wr=>sameSig_any l[i] z.w cs.toArray ds.toArray (last_rdSig _ _ _ _ hrd z.below) (last_rdSig _ _ _ _ hrd' z.below)
   have hsz:(prog.info? 82).map (·.size)=some cs.length:=(by rw[hcl];exact sig_size);have hsz':(prog.info? 82).map (·.size)=some ds.length:=(by rw[hdl];exact sig_size);have r1:∀ v,(∃ z:Later wr,v=z.w)→v.rangeAt ba (oa+i*19) cs:=(by rintro _ ⟨z,rfl⟩;exact Later.range hrg z);have r2:∀ v,(∃ z:Later wr,v=z.w)→v.rangeAt bb (ob+i*19) ds:=(by rintro _ ⟨z,rfl⟩;exact Later.range hrg' z);clear hrd hrd' hrg hrg' hcl hdl;go_wp2_with fail;refine wp_region_later0 (by kernel_rfl) (by kernel_rfl) ?_
   repeat (first|(refine wpQuiet_loadR r1 82 (.tmp 19) hu hsz ?_;simp only[Act.put,List.setIfInBounds_toArray,List.set_cons_zero,List.set_cons_succ])|(refine wpQuiet_loadR r2 82 (.tmp 23) hu hsz' ?_;simp only[Act.put,List.setIfInBounds_toArray,List.set_cons_zero,List.set_cons_succ])|go_big_quiet_step ((go_at_call 141;with_reducible exact Later.made (c _))))
   refine wpQuiet_nil ?_;rintro _ ⟨z,rfl⟩;have hb2:=bstep hb z.below lrf;generalize z.w=w3 at *;clear c r1 r2;go_wp2_with fail;go_roundw;case rel=>exact⟨i+1,by omega,by go_num,hb2⟩
   case measure=>simp[intOf];omega
  ·go_wp2_with fail;go_ret;exact⟨rfl,hb⟩
set_option maxRecDepth 100000 in theorem sameMsg_any (x : MsgD) (w : World) (cs ds : Array Value) (h1 : rdMsg w x cs.toList) (h2 : rdMsg w x ds.toList) :
  Calls prog 36 #[.agg cs,.agg ds] w fun e w'=>e=.returned (.bool true)∧Below w.heap.size w w':=by
 obtain⟨a,p,e1,hs⟩:=h1;obtain⟨b,q,e2,ht⟩:=h2;obtain rfl:=Array.toList_inj.1 e1;obtain rfl:=Array.toList_inj.1 e2;clear e1 e2;have hb2:∀ o1 o2,Below w.heap.size w ((w.alloc o1).alloc o2):=fun o1 o2=>((Below.refl w.heap.size w).alloc lrf o1).alloc (by simp) o2
 have HC:=Qh (fun o1 o2=>sameSigs_any x.sigs x.sigs.length x.sigs.length rfl rfl a b p q _ (hs.keep last_rdSig (hb2 o1 o2)) (ht.keep last_rdSig (hb2 o1 o2)));have HB:=Qh hb2;clear hs ht hb2;generalize x.sigs.length=n at *;unfold MsgD.cells;go_enter func36,ntmps36
 go_wp2_with fail;with_reducible refine(HC.out _ _).mono ?_
 rintro e w1 ⟨rfl,hb⟩;have hb3:=bstep (HB.out _ _) hb (by simp);go_wp2_with fail;go_ret;exact⟨rfl,hb3⟩
set_option maxRecDepth 100000 in theorem sameTab_any (x : TabD) (w : World) (cs ds : Array Value) (h1 : rdTab w x cs.toList) (h2 : rdTab w x ds.toList) :
  Calls prog 37 #[.agg cs,.agg ds] w fun e w'=>e=.returned (.bool true)∧Below w.heap.size w w':=by
 obtain⟨a,p,e1,hs⟩:=h1;obtain⟨b,q,e2,ht⟩:=h2;obtain rfl:=Array.toList_inj.1 e1;obtain rfl:=Array.toList_inj.1 e2;clear e1 e2;have hb2:∀ o1 o2,Below w.heap.size w ((w.alloc o1).alloc o2):=fun o1 o2=>((Below.refl w.heap.size w).alloc lrf o1).alloc (by simp) o2
 have HC:=Qh (fun o1 o2=>sameRw_any x.rows x.rows.length x.rows.length rfl rfl a b p q _ (hs.keep (hb2 o1 o2) lrf) (ht.keep (hb2 o1 o2) lrf));have HB:=Qh hb2;clear hs ht hb2;generalize x.rows.length=n at *;unfold TabD.cells;go_enter func37,ntmps37
 go_wp2_with fail;with_reducible refine(HC.out _ _).mono ?_
 rintro e w1 ⟨rfl,hb⟩;have hb3:=bstep (HB.out _ _) hb (by simp);go_wp2_with fail;go_ret;exact⟨rfl,hb3⟩
set_option maxRecDepth 100000 in theorem sameSta_any (x : StaD) (w : World) (cs ds : Array Value) (h1 : rdSta w x cs.toList) (h2 : rdSta w x ds.toList) :
  Calls prog 35 #[.agg cs,.agg ds] w fun e w'=>e=.returned (.bool true)∧Below w.heap.size w w':=by
 obtain⟨a,p,e1,hs⟩:=h1;obtain⟨b,q,e2,ht⟩:=h2;obtain rfl:=Array.toList_inj.1 e1;obtain rfl:=Array.toList_inj.1 e2;clear e1 e2;have hb2:∀ o1 o2,Below w.heap.size w ((w.alloc o1).alloc o2):=fun o1 o2=>((Below.refl w.heap.size w).alloc lrf o1).alloc (by simp) o2
 have HC:=Qh (fun o1 o2=>sameTx_any x.names x.names.length x.names.length rfl rfl a b p q _ (hs.keep (hb2 o1 o2) lrf) (ht.keep (hb2 o1 o2) lrf));have HB:=Qh hb2;clear hs ht hb2;generalize x.names.length=n at *;unfold StaD.cells;go_enter func35,ntmps35
 go_wp2_with fail;with_reducible refine(HC.out _ _).mono ?_
 rintro e w1 ⟨rfl,hb⟩;have hb3:=bstep (HB.out _ _) hb (by simp);go_wp2_with fail;go_ret;exact⟨rfl,hb3⟩
end Go.Proofs.YtlacjhjckkablaaGreatDoor
