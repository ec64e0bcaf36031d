/-
  Plain: the tokens of a source that is scanned: they end, their texts are short; what is wrong has one of two forms; what a file's reading answers.
-/
import Derived.Test.YtkblpaabknjckaaGreatDoorBaseD
import Derived.Test.YtkblpaabknjckaaGreatDoorRlxN
import Derived.Test.YtkblpaabknjckaaGreatDoorPrsJ
import Derived.Test.YtkblpaabknjckaaGreatDoorCopC
import Derived.Test.YtkblpaabknjckaaGreatDoorParS
set_option maxHeartbeats 128000000
set_option linter.unusedVariables false
namespace Go.Proofs.YtkblpaabknjckaaGreatDoor
open Go.RowKit Go.Shelf
inductive Chain (s:List UInt8):Nat→List TokD→Prop where
 | fin (n:Nat) (q:Int×Int) (hn:n≤s.length) (hb:Bnd s (1,1) s.length q):Chain s n [endTok q]
 | tok (n i m:Nat) (t:TokD) (r:List TokD) (hn:n≤i) (hi:i < s.length) (hb:Bnd s (1,1) i (t.line,t.col)) (ht:tokR (s.drop i)=.good t.kind t.text m) (hm:1≤m) (hr:Chain s (i+m) r):Chain s n (t::r)
theorem Chain.mono {s:List UInt8} {n k:Nat} {l:List TokD} (h:Chain s n l) (hk:k≤n):Chain s k l:=by
 cases h with
 | fin _ q hn hb=>exact .fin _ q (by omega) hb
 | tok _ i m t r hn hi hb ht hm hr=>exact .tok _ i m t r (by omega) hi hb ht hm hr
theorem RefI.chain {s:List UInt8} {V:ScanR} {l:List TokD} (hV:V=.good l):∀ (f i:Nat) (acc:List TokD) (q:Int×Int),s.length - i≤f→RefI s V i acc q→∃ r,l=acc++r∧Chain s i r:=by
 have done:∀ (i:Nat) (acc:List TokD) (q:Int×Int),i=s.length→RefI s V i acc q→∃ r,l=acc++r∧Chain s i r:=fun i acc q hi h=>by
  have h2:=h.fin hi;rw[hV]at h2;injection h2 with h2
  subst hi;exact⟨[endTok q],h2,.fin _ q lrf h.hb⟩
 intro f
 induction f with
 | zero=>intro i acc q hf h;exact done i acc q (by have:=h.hk;omega) h
 | succ f ih=>
  intro i acc q hf h;by_cases hlt:i < s.length
  ·cases hb:blankU s[i].toNat
   ·cases ht:tokR (s.drop i)with
    | bad e=>
     have:=h.bad hlt hb ht;rw[hV]at this;cases this
    | good k t n=>
     obtain⟨h1,q',h2⟩:=h.good hlt hb ht;obtain⟨r,h3,h4⟩:=ih (i+n) _ q' (by omega) h2;exact⟨⟨k,t,q.1,q.2⟩::r,by rw[h3,List.append_assoc];rfl,.tok _ i n ⟨k,t,q.1,q.2⟩ r lrf hlt h.hb ht h1 h4⟩
   ·obtain⟨q',h2⟩:=h.blank hlt hb;obtain⟨r,h3,h4⟩:=ih (i+1) _ q' (by omega) h2;exact⟨r,h3,h4.mono (Nat.le_succ _)⟩
  ·exact done i acc q (by have:=h.hk;omega) h
theorem scanL_chain {s:List UInt8} {l:List TokD} (h:scanL s=.good l):Chain s 0 l:=by
 have h2:scanL s=scanF s.length s 0 (1,1) []:=by
  rcases checkV_or s with ⟨_,_,h3⟩|⟨_,_,_,h3⟩
  ·exact h3
  ·rw[h]at h3;cases h3
 have h3:RefI s (scanL s) 0 [] (1,1):=⟨Nat.zero_le _,.zero _ _,h2⟩
 obtain⟨r,h4,h5⟩:=RefI.chain h s.length 0 [] (1,1) (by omega) h3;rw[List.nil_append]at h4;rw[h4];exact h5
theorem ptw_take:∀ (l:List UInt8) (k:Nat),tw (l.take k)=(tw l).take k
 | [],k=>by simp[tw]
 | c::t,0=>by simp[tw]
 | c::t,k+1=>by
  rw[List.take_succ_cons];cases h:isDg c
  ·rw[tw_stop h,tw_stop h];simp
  ·rw[tw_cons h,tw_cons h,List.take_succ_cons,ptw_take t k]
theorem pdw_drop:∀ (l:List UInt8),dw l=l.drop (tw l).length
 | []=>rfl
 | c::t=>by
  cases h:isDg c
  ·rw[tw_stop h,dw_stop h];rfl
  ·rw[tw_cons h,dw_cons h,pdw_drop t];rfl
theorem dw_take (l:List UInt8) (k:Nat) (h:(tw l).length≤k):dw (l.take k)=(l.drop (tw l).length).take (k - (tw l).length):=by
 rw[pdw_drop,ptw_take,List.length_take,Nat.min_eq_right h,List.drop_take]
theorem ptw_take_all (l:List UInt8) (k:Nat) (h:(tw l).length≤k):tw (l.take k)=tw l:=by
 rw[ptw_take,List.take_of_length_le h]
theorem cutS_take:∀ (l:List UInt8) (k:Nat),(cutS (l.take (sgnN l+k))).2=(l.drop (sgnN l)).take k
 | [],k=>by simp[cutS]
 | c::t,k=>by
  show(cutS ((c::t).take ((if isSg c=true then 1 else 0)+k))).2=((c::t).drop (if isSg c=true then 1 else 0)).take k;cases h:isSg c
  ·rw[if_neg (by decide),Nat.zero_add];cases k with
   | zero=>rfl
   | succ k=>simp[cutS,h]
  ·rw[if_pos rfl,Nat.add_comm,List.take_succ_cons];simp[cutS,h]
theorem num3_nz {s:List UInt8} {n N:Nat} (h:num3T s n=N) (hN:N≠0):N=n:=by
 rw[num3_at]at h;split at h
 ·exact absurd h.symm hN
 ·exact h.symm
theorem cutE_take {s:List UInt8} {n N:Nat} (h:num2T s n=N) (hN:N≠0):n≤N∧∃ d p,cutE ((s.drop n).take (N - n))=some (d,p,[]):=by
 by_cases hn:n < s.length
 ·unfold num2T at h;rw[at_some hn]at h;simp only at h;split at h
  ·rename_i hE
   split at h
   ·exact absurd h.symm hN
   ·rename_i htw
    have:=num3_nz h hN;refine⟨by omega,(cutS ((s.drop (n+1)).take (sgnN (s.drop (n+1))+(tw (s.drop (n+1+sgnN (s.drop (n+1))))).length))).1,tw (s.drop (n+1+sgnN (s.drop (n+1)))),?_⟩;rw[List.drop_eq_getElem_cons hn,show N - n=(sgnN (s.drop (n+1))+(tw (s.drop (n+1+sgnN (s.drop (n+1))))).length)+1 by omega,List.take_succ_cons];unfold cutE;simp only[hE,if_true];have h1:=cutS_take (s.drop (n+1)) (tw (s.drop (n+1+sgnN (s.drop (n+1))))).length;rw[List.drop_drop]at h1;rw[h1,ptw_take_all _ _ lrf,if_neg htw,dw_take _ _ lrf,Nat.sub_self,List.take_zero]
  ·have:=num3_nz h hN;subst this;exact⟨lrf,false,[],by rw[Nat.sub_self,List.take_zero];rfl⟩
 ·rw[num2_end hn]at h;subst h;exact⟨lrf,false,[],by rw[Nat.sub_self,List.take_zero];rfl⟩
theorem cutP_take {s:List UInt8} {n N:Nat} (h:num1T s n=N) (hN:N≠0):n≤N∧∃ b r d p,cutP ((s.drop n).take (N - n))=some (b,r)∧cutE r=some (d,p,[]):=by
 by_cases hn:n < s.length
 ·unfold num1T at h;rw[at_some hn]at h;simp only at h;split at h
  ·rename_i hE
   split at h
   ·exact absurd h.symm hN
   ·rename_i htw
    obtain⟨h1,d,p,h2⟩:=cutE_take h hN;refine⟨by omega,tw (s.drop (n+1)),(s.drop (n+(1+(tw (s.drop (n+1))).length))).take (N - (n+(1+(tw (s.drop (n+1))).length))),d,p,?_,h2⟩;rw[List.drop_eq_getElem_cons hn,show N - n=(N - n - 1)+1 by omega,List.take_succ_cons,hE];unfold cutP;simp only[if_true];rw[ptw_take_all _ _ (by omega),if_neg htw,dw_take _ _ (by omega),List.drop_drop,show n+1+(tw (s.drop (n+1))).length=n+(1+(tw (s.drop (n+1))).length)by omega,show N - n - 1 - (tw (s.drop (n+1))).length=N - (n+(1+(tw (s.drop (n+1))).length))by omega]
  ·rename_i hE
   obtain⟨h1,d,p,h2⟩:=cutE_take h hN;refine⟨h1,[],(s.drop n).take (N - n),d,p,?_,h2⟩;rw[List.drop_eq_getElem_cons hn];cases hk:N - n with
   | zero=>rfl
   | succ k=>rw[List.take_succ_cons];unfold cutP;simp only;rw[if_neg hE]
 ·rw[num1_end hn]at h;subst h;exact⟨lrf,[],[],false,[],by rw[Nat.sub_self,List.take_zero];rfl,rfl⟩
def orderR (ts:List TokD):PR (List UInt8):=if (headT ts).kind=4∧(headT ts).text.length=3 then .ok (headT ts).text ts.tail else formR ts
def toF:Nat→List (List UInt8)→List TokD→PR (List (List UInt8))
 | 0,l,ts=>.ok l ts
 | f+1,l,ts=>if seesB [44] ts then (nameR ts.tail).bind fun nm ts'=>toF f (l++[nm]) ts' else .ok l ts
def sigR (ts:List TokD):PR SigX:=
 (mustR [83,71,95] ts).bind fun t ts=>(nameR ts).bind fun nm ts=>(roleR ts).bind fun rb ts=>(mustR [58] ts).bind fun _ ts=>
 (wholeR 2147483648 ts).bind fun st ts=>(mustR [124] ts).bind fun _ ts=>(wholeR 2147483648 ts).bind fun sz ts=>(orderR ts).bind fun o ts=>
 (mustR [40] ts).bind fun _ ts=>(fracR ts).bind fun sc ts=>(mustR [44] ts).bind fun _ ts=>(fracR ts).bind fun of ts=>(mustR [41] ts).bind fun _ ts=>
 (mustR [91] ts).bind fun _ ts=>(fracR ts).bind fun mi ts=>(mustR [124] ts).bind fun _ ts=>(fracR ts).bind fun ma ts=>(mustR [93] ts).bind fun _ ts=>
 (nextR 3 ts).bind fun u ts=>(nameR ts).bind fun n1 ts=>(toF ts.length [n1] ts).bind fun rcv ts=>
 .ok ⟨⟨t.line,t.col,nm,rb.1,rb.2,st,sz,o[1]? == some 48,o[2]? == some 45,sc.1,sc.2,of.1,of.2,mi.1,mi.2,ma.1,ma.2,u.text⟩,rcv⟩ ts
def sgsF:Nat→List SigX→List TokD→PR (List SigX)
 | 0,l,ts=>.ok l ts
 | f+1,l,ts=>if seesB [83,71,95] ts then (if l.length=64 then wrongR 5 ts else (sigR ts).bind fun x ts'=>sgsF f (l++[x]) ts') else .ok l ts
def messageR (ts:List TokD):PR MsgD:=
 (mustR [66,79,95] ts).bind fun t ts=>(idR ts).bind fun i ts=>(nameR ts).bind fun nm ts=>(mustR [58] ts).bind fun _ ts=>
 (wholeR 2147483648 ts).bind fun sz ts=>(nameR ts).bind fun sd ts=>(sgsF ts.length [] ts).bind fun l ts=>
 .ok ⟨t.line,t.col,i.1,i.2,nm,sz,sd,l⟩ ts
def intP (s:List UInt8):Option Int:=match Lib.parseIntB 64 s with
 | .ok v=>if Lib.itoa v=s then some v else none
 | _=>none
def rowsF:Nat→List (Int×List UInt8)→List TokD→PR (List (Int×List UInt8))
 | 0,l,ts=>.ok l ts
 | f+1,l,ts=>if (headT ts).kind=2 then (match intP (headT ts).text with
  | none=>wrongR 8 ts
  | some v=>if l.length=256 then wrongR 5 ts else (nextR 3 ts.tail).bind fun x ts'=>rowsF f (l++[(v,x.text)]) ts') else .ok l ts
def tableR (ts:List TokD):PR TabD:=
 (mustR [86,65,76,95] ts).bind fun t ts=>(idR ts).bind fun i ts=>(nameR ts).bind fun nm ts=>(rowsF ts.length [] ts).bind fun l ts=>(mustR [59] ts).bind fun _ ts=>
 .ok ⟨t.line,t.col,i.1,i.2,nm,l⟩ ts
def namsF:Nat→List (List UInt8)→List TokD→PR (List (List UInt8))
 | 0,l,ts=>.ok l ts
 | f+1,l,ts=>if namedB ts then (nameR ts).bind fun nm ts'=>namsF f (l++[nm]) ts' else .ok l ts
def verR (ts:List TokD):PR (List NodeD):=
 if seesB [86,69,82,83,73,79,78] ts then (nextR 3 ts.tail).bind fun x ts'=>(commentsR ts').bind fun _ ts''=>.ok [.ver ⟨(headT ts).line,(headT ts).col,x.text⟩] ts'' else .ok [] ts
def mssF:Nat→Nat→List NodeD→List TokD→PR (List NodeD)
 | 0,_,l,ts=>.ok l ts
 | f+1,n,l,ts=>if seesB [66,79,95] ts then (if n=512 then wrongR 5 ts else (messageR ts).bind fun m ts'=>(commentsR ts').bind fun _ ts''=>mssF f (n+1) (l++[.msg m]) ts'') else .ok l ts
def tbsF:Nat→List NodeD→List TokD→PR (List NodeD)
 | 0,l,ts=>.ok l ts
 | f+1,l,ts=>if seesB [86,65,76,95] ts then (tableR ts).bind fun m ts'=>(commentsR ts').bind fun _ ts''=>tbsF f (l++[.tab m]) ts'' else .ok l ts
def endR (l:List NodeD) (ts:List TokD):PR (List NodeD):=if (headT ts).kind=0 then .ok l ts else formR ts
def sourceR (ts:List TokD):PR (List NodeD):=
 (commentsR ts).bind fun _ ts=>(verR ts).bind fun l0 ts=>(mustR [66,85,95] ts).bind fun t ts=>(mustR [58] ts).bind fun _ ts=>
 (namsF ts.length [] ts).bind fun ns ts=>(commentsR ts).bind fun _ ts=>(mssF ts.length 0 (l0++[.sta ⟨t.line,t.col,ns⟩]) ts).bind fun l ts=>
 (tbsF ts.length l ts).bind fun l ts=>endR l ts
def Keeps {α:Type} (p:List TokD→PR α):Prop:=∀ ts x ts',p ts=.ok x ts'→TsB ts→TsB ts'∧ts'.length≤ts.length
def Takes {α:Type} (p:List TokD→PR α):Prop:=∀ ts x ts',p ts=.ok x ts'→TsB ts→TsB ts'∧ts'.length < ts.length
theorem bind_inv {α β:Type} {r:PR α} {f:α→List TokD→PR β} {x:β} {ts':List TokD} (h:r.bind f=.ok x ts'):∃ y t,r=.ok y t∧f y t=.ok x ts':=by
 cases r with
 | ok y t=>exact⟨y,t,rfl,h⟩
 | bad n l c=>cases h
theorem Takes.keeps {α:Type} {p:List TokD→PR α} (h:Takes p):Keeps p:=fun ts x ts' e hb=>⟨(h ts x ts' e hb).1,Nat.le_of_lt (h ts x ts' e hb).2⟩
theorem Keeps.bind {α β:Type} {p:List TokD→PR α} {f:α→List TokD→PR β} (hp:Keeps p) (hf:∀ y,Keeps (f y)):Keeps (fun ts=>(p ts).bind f):=fun ts x ts' e hb=>by
 obtain⟨y,t,h1,h2⟩:=bind_inv e;obtain⟨b1,l1⟩:=hp _ _ _ h1 hb;obtain⟨b2,l2⟩:=hf y _ _ _ h2 b1;exact⟨b2,by omega⟩
theorem Takes.bind {α β:Type} {p:List TokD→PR α} {f:α→List TokD→PR β} (hp:Takes p) (hf:∀ y,Keeps (f y)):Takes (fun ts=>(p ts).bind f):=fun ts x ts' e hb=>by
 obtain⟨y,t,h1,h2⟩:=bind_inv e;obtain⟨b1,l1⟩:=hp _ _ _ h1 hb;obtain⟨b2,l2⟩:=hf y _ _ _ h2 b1;exact⟨b2,by omega⟩
theorem keeps_ok {α:Type} (x:α):Keeps (fun ts=>PR.ok x ts):=fun ts y ts' e hb=>by
 cases e
 exact⟨hb,lrf⟩
theorem tail_lt {ts:List TokD} (h:TsB ts):ts.tail.length < ts.length:=by
 have:=h.1.pos;rw[List.length_tail];omega
theorem must_takes (t:List UInt8):Takes (mustR t):=fun ts x ts' e hb=>by
 obtain⟨h1,-,rfl⟩:=must_ok e hb;exact⟨h1,tail_lt hb⟩
theorem next_takes (k:Int):Takes (nextR k):=fun ts x ts' e hb=>by
 obtain⟨h1,-,rfl,-⟩:=next_ok e hb;exact⟨h1,tail_lt hb⟩
theorem name_takes:Takes nameR:=fun ts x ts' e hb=>by
 obtain⟨h1,-,-,rfl⟩:=name_ok e hb;exact⟨h1,tail_lt hb⟩
theorem whole_takes (b:Nat):Takes (wholeR b):=fun ts x ts' e hb=>by
 obtain⟨h1,-,rfl⟩:=whole_ok e hb;exact⟨h1,tail_lt hb⟩
theorem frac_takes:Takes fracR:=fun ts x ts' e hb=>by
 obtain⟨h1,rfl,-⟩:=frac_ok e hb;exact⟨h1,tail_lt hb⟩
theorem role_keeps:Keeps roleR:=fun ts x ts' e hb=>role_ok e hb
theorem order_takes:Takes orderR:=fun ts x ts' e hb=>by
 unfold orderR formR wrongR at e;split at e
 ·rename_i h
  cases e
  exact⟨hb.tail (by rw[h.1];decide),tail_lt hb⟩
 ·cases e
theorem id_ok {ts ts':List TokD} {x:Nat×Bool} (h:idR ts=.ok x ts') (hb:TsB ts):TsB ts'∧ts' = ts.tail∧x.1 < 2147483648:=by
 unfold idR at h;split at h
 ·rename_i n t hw
  cases h
  obtain⟨h1,-,h2⟩:=whole_ok hw hb;exact⟨h1,h2,Nat.mod_lt _ (by decide)⟩
 ·cases h
theorem id_takes:Takes idR:=fun ts x ts' e hb=>by
 obtain⟨h1,rfl,-⟩:=id_ok e hb;exact⟨h1,tail_lt hb⟩
theorem comm_keeps:Keeps commentsR:=fun ts x ts' e hb=>comm_ok _ e hb
theorem to_ok:∀ (f:Nat) {l r:List (List UInt8)} {ts ts':List TokD},toF f l ts=.ok r ts'→TsB ts→TsB ts'∧ts'.length≤ts.length∧r.length+ts'.length≤l.length+ts.length
 | 0,l,r,ts,ts',h,hb=>by
  cases h
  exact⟨hb,lrf,lrf⟩
 | f+1,l,r,ts,ts',h,hb=>by
  unfold toF at h;split at h
  ·rename_i hs
   obtain⟨y,t,h1,h2⟩:=bind_inv h;obtain⟨b1,l1⟩:=name_takes _ _ _ h1 (hb.tail (sees_kind hs));obtain⟨b2,l2,l3⟩:=to_ok f h2 b1;have:=tail_lt hb;rw[List.length_append,List.length_cons,List.length_nil]at l3;exact⟨b2,by omega,by omega⟩
  ·cases h
   exact⟨hb,lrf,lrf⟩
theorem to_keeps (l:List (List UInt8)):Keeps (fun ts=>toF ts.length l ts):=fun ts x ts' e hb=>⟨(to_ok _ e hb).1,(to_ok _ e hb).2.1⟩
theorem sig_takes:Takes sigR:=
 Takes.bind (must_takes _) fun _=>Keeps.bind name_takes.keeps fun _=>Keeps.bind role_keeps fun _=>Keeps.bind (must_takes _).keeps fun _=>
 Keeps.bind (whole_takes _).keeps fun _=>Keeps.bind (must_takes _).keeps fun _=>Keeps.bind (whole_takes _).keeps fun _=>Keeps.bind order_takes.keeps fun _=>
 Keeps.bind (must_takes _).keeps fun _=>Keeps.bind frac_takes.keeps fun _=>Keeps.bind (must_takes _).keeps fun _=>Keeps.bind frac_takes.keeps fun _=>Keeps.bind (must_takes _).keeps fun _=>
 Keeps.bind (must_takes _).keeps fun _=>Keeps.bind frac_takes.keeps fun _=>Keeps.bind (must_takes _).keeps fun _=>Keeps.bind frac_takes.keeps fun _=>Keeps.bind (must_takes _).keeps fun _=>
 Keeps.bind (next_takes _).keeps fun _=>Keeps.bind name_takes.keeps fun _=>Keeps.bind (to_keeps _) fun _=>keeps_ok _
theorem sgs_ok:∀ (f:Nat) {l r:List SigX} {ts ts':List TokD},sgsF f l ts=.ok r ts'→l.length≤64→TsB ts→TsB ts'∧ts'.length≤ts.length∧r.length≤64
 | 0,l,r,ts,ts',h,hl,hb=>by
  cases h
  exact⟨hb,lrf,hl⟩
 | f+1,l,r,ts,ts',h,hl,hb=>by
  unfold sgsF wrongR at h;split at h
  ·split at h
   ·cases h
   ·rename_i hne
    obtain⟨y,t,h1,h2⟩:=bind_inv h;obtain⟨b1,l1⟩:=sig_takes _ _ _ h1 hb;obtain⟨b2,l2,l3⟩:=sgs_ok f h2 (by rw[List.length_append,List.length_cons,List.length_nil];omega) b1;exact⟨b2,by omega,l3⟩
  ·cases h
   exact⟨hb,lrf,hl⟩
theorem sgs_keeps:Keeps (fun ts=>sgsF ts.length [] ts):=fun ts x ts' e hb=>⟨(sgs_ok _ e (by simp) hb).1,(sgs_ok _ e (by simp) hb).2.1⟩
theorem message_takes:Takes messageR:=
 Takes.bind (must_takes _) fun _=>Keeps.bind id_takes.keeps fun _=>Keeps.bind name_takes.keeps fun _=>Keeps.bind (must_takes _).keeps fun _=>
 Keeps.bind (whole_takes _).keeps fun _=>Keeps.bind name_takes.keeps fun _=>Keeps.bind sgs_keeps fun _=>keeps_ok _
theorem rows_ok:∀ (f:Nat) {l r:List (Int×List UInt8)} {ts ts':List TokD},rowsF f l ts=.ok r ts'→l.length≤256→TsB ts→TsB ts'∧ts'.length≤ts.length∧r.length≤256
 | 0,l,r,ts,ts',h,hl,hb=>by
  cases h
  exact⟨hb,lrf,hl⟩
 | f+1,l,r,ts,ts',h,hl,hb=>by
  unfold rowsF wrongR at h;split at h
  ·rename_i hk
   split at h
   ·cases h
   ·split at h
    ·cases h
    ·rename_i hne
     obtain⟨y,t,h1,h2⟩:=bind_inv h;obtain⟨b1,l1⟩:=next_takes _ _ _ _ h1 (hb.tail (by rw[hk];decide));obtain⟨b2,l2,l3⟩:=rows_ok f h2 (by rw[List.length_append,List.length_cons,List.length_nil];omega) b1;have:=tail_lt hb;exact⟨b2,by omega,l3⟩
  ·cases h
   exact⟨hb,lrf,hl⟩
theorem rows_keeps:Keeps (fun ts=>rowsF ts.length [] ts):=fun ts x ts' e hb=>⟨(rows_ok _ e (by simp) hb).1,(rows_ok _ e (by simp) hb).2.1⟩
theorem table_takes:Takes tableR:=
 Takes.bind (must_takes _) fun _=>Keeps.bind id_takes.keeps fun _=>Keeps.bind name_takes.keeps fun _=>Keeps.bind rows_keeps fun _=>Keeps.bind (must_takes _).keeps fun _=>keeps_ok _
theorem nams_ok:∀ (f:Nat) {l r:List (List UInt8)} {ts ts':List TokD},namsF f l ts=.ok r ts'→TsB ts→TsB ts'∧ts'.length≤ts.length∧r.length+ts'.length≤l.length+ts.length
 | 0,l,r,ts,ts',h,hb=>by
  cases h
  exact⟨hb,lrf,lrf⟩
 | f+1,l,r,ts,ts',h,hb=>by
  unfold namsF at h;split at h
  ·obtain⟨y,t,h1,h2⟩:=bind_inv h;obtain⟨b1,l1⟩:=name_takes _ _ _ h1 hb;obtain⟨b2,l2,l3⟩:=nams_ok f h2 b1;rw[List.length_append,List.length_cons,List.length_nil]at l3;exact⟨b2,by omega,by omega⟩
  ·cases h
   exact⟨hb,lrf,lrf⟩
open Go.RowKit
def endN (r:Lib.NumEnd Nat):Lib.NumEnd Int:=match r with
 | .ok u=>if 9223372036854775808 < u then .range else .ok (-(u:Int))
 | Lib.NumEnd.syntax=>Lib.NumEnd.syntax
 | .range=>.range
theorem pInt_neg (r:List UInt8):Lib.parseIntB 64 (45::r)=endN (Lib.parseUintB 64 r):=by
 unfold Lib.parseIntB;simp only;rw[if_pos (show UInt8.toNat 45=43∨UInt8.toNat 45=45 from Or.inr rfl)];cases Lib.parseUintB 64 r with
 | range=>rfl
 | ok u=>
  have h45:(45:UInt8).toNat=45:=rfl;simp only[h45,not_true_eq_false,false_and,if_false,true_and,if_true,endN];try rfl
 | _=>rfl
abbrev Mark:Type:=List UInt8×Int×Int
def mkT (t:TokD):Mark:=(t.text,t.line,t.col)
def Plain14 (t:TokD):Prop:=t.kind=1∨t.kind=4
def Holds (u:List TokD) (m:List Mark):Prop:=∃ s:List TokD,List.Sublist s u∧s.map mkT=m∧∀ t∈s,Plain14 t
theorem unq_may2 {x t:List UInt8} (h:unqL x=.good t):mayN t=0:=by
 unfold unqL at h;split at h
 ·cases h
 ·cases h
 ·split at h
  ·unfold unqEnd at h;split at h
   ·cases h
   ·cases h
   ·split at h
    ·unfold unqFin at h;split at h
     ·rename_i h2
      cases h;exact h2
     ·cases h
    ·cases h
  ·cases h
theorem may_len {t:List UInt8} (h:mayN t=0):t.length≤1024:=by
 unfold mayN at h;split at h
 ·cases h
 ·omega
theorem text_len {s t:List UInt8} {k:Int} {n:Nat} (h:textR s=.good k t n):t.length≤1024:=by
 unfold textR at h;split at h
 ·cases h
 ·split at h
  ·split at h<;>cases h
  ·rename_i hq
   cases h
   exact may_len (unq_may2 hq)
theorem tok_len {s t:List UInt8} {k:Int} {n:Nat} (h:tokR s=.good k t n):t.length≤1024∨t.length≤s.length:=by
 have ht:∀ m,(s.take m).length≤s.length:=fun m=>by rw[List.length_take];omega
 unfold tokR at h;split at h
 ·cases h;exact .inr (ht _)
 ·split at h
  ·split at h
   ·cases h
   ·cases h;exact .inr (ht _)
  ·split at h
   ·exact .inl (text_len h)
   ·split at h
    ·cases h;exact .inr (ht _)
    ·split at h
     ·cases h;exact .inr (ht _)
     ·cases h
theorem Chain.ends {s:List UInt8} {n:Nat} {l:List TokD} (h:Chain s n l):TsOK l∧∀ t∈l,t.text.length≤1024∨t.text.length≤s.length:=by
 induction h with
 | fin n q hn hb=>exact⟨⟨[],endTok q,rfl,rfl⟩,fun t ht=>by rw[List.mem_singleton]at ht;subst ht;exact .inl (by simp[endTok])⟩
 | tok n i m t r hn hi hb ht hm hr ih=>
  obtain⟨⟨l',e,h1,h2⟩,h3⟩:=ih;refine⟨⟨t::l',e,by rw[h1];rfl,h2⟩,fun x hx=>?_⟩;rcases List.mem_cons.1 hx with rfl|hx
  ·rcases tok_len ht with h4|h4
   ·exact .inl h4
   ·rw[List.length_drop]at h4;exact .inr (by omega)
  ·exact h3 x hx
theorem scanL_toks {s:List UInt8} {l:List TokD} (h:scanL s=.good l):TsB l:=by
 obtain⟨h1,h2,-,-⟩:=scanL_bd h;obtain⟨h3,h4⟩:=(scanL_chain h).ends;refine⟨h3,fun t ht=>?_,by omega⟩;have:=h4 t ht;omega
theorem scanF_form:∀ (f:Nat) (s:List UInt8) (sk:Nat) (p:Int×Int) (acc:List TokD) (v:Value),scanF f s sk p acc=.bad v→∃ no l c,v=faultV no l c∧1≤no∧no≤26
 | 0,s,sk,p,acc,v,h=>by simp[scanF]at h
 | f+1,s,sk,p,acc,v,h=>by
  by_cases h0:s=[]
  ·subst h0;rw[scan_nil]at h;cases h
  ·rw[scan_step h0]at h;split at h
   ·have hok:=tokR_ok s h0;cases ht:tokR s with
    | bad e=>
     rw[ht]at h hok;cases h
     obtain⟨h1,h2⟩:=hok;exact⟨_,_,_,rfl,by omega,by omega⟩
    | good k t n=>rw[ht]at h;exact scanF_form f _ _ _ _ v h
   ·exact scanF_form f _ _ _ _ v h
theorem scanL_form {s:List UInt8} {v:Value} (h:scanL s=.bad v):v=errV 5∨∃ no l c,v=faultV no l c∧1≤no∧no≤26:=by
 unfold scanL at h;split at h
 ·cases h;exact .inl rfl
 ·split at h
  ·exact .inr (scanF_form _ _ _ _ _ _ h)
  ·cases h;exact .inr ⟨_,_,_,rfl,by decide,by decide⟩
inductive FileR where
 | bad (v:Value)
 | good (l:List NodeD)
def fileR (s:List UInt8):FileR:=match scanL s with
 | .bad v=>.bad v
 | .good ts=>match sourceR ts with
  | .ok l _=>.good l
  | .bad no l c=>.bad (faultV no l c)
end Go.Proofs.YtkblpaabknjckaaGreatDoor
