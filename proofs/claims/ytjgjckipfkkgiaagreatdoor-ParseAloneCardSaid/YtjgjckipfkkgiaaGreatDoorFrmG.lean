/-
  Plain: where the parts begin among the tokens.
-/
import Derived.Test.YtjgjckipfkkgiaaGreatDoorBaseD
import Derived.Test.YtjgjckipfkkgiaaGreatDoorFrmC
import Derived.Test.YtjgjckipfkkgiaaGreatDoorGat6
set_option maxHeartbeats 128000000
set_option linter.unusedVariables false
namespace Go.Proofs.YtjgjckipfkkgiaaGreatDoor
open Go.RowKit Go.Shelf
theorem cm_end {z:TokD} (hz:z.kind=0) (l:List TokD):seesB [67,77,95] (z::l)=false:=by
 unfold seesB;show(decide (z.text=_) && (z.kind == 1 || z.kind == 4))=false;rw[hz];simp
theorem comm_post {T T' r:List TokD} (hs:SameL T T') (hb:TsB T) (e:commentsR T=.ok () r):∃ k,k≤T.length∧r=T.drop k∧commentsR T' = .ok () (T'.drop k):=by
 obtain⟨hbr,-⟩:=comm_keeps _ _ _ e hb;obtain⟨l,z,rfl,hz⟩:=hb.1;have hl:T' = T'.take l.length++T'.drop l.length:=(List.take_append_drop _ _).symm;have hlen:=hs.len;have h1:(l++[z]).map ekT=T'.map ekT:=hs;have hs1:SameL l (T'.take l.length):=by
  show l.map ekT=(T'.take l.length).map ekT;rw[List.map_take,← h1,List.map_append,List.take_left' (by simp)]
 have hs2:SameL [z] (T'.drop l.length):=by
  show [z].map ekT=(T'.drop l.length).map ekT;rw[List.map_drop,← h1,List.map_append,List.drop_left' (by simp)]
 obtain⟨z',l',hz',he,hn⟩:=hs2.cons;have hl0:=hn.nil;subst hl0;have hl2:(T'.take l.length).length=l.length:=hs1.len.symm;unfold commentsR at e ⊢;obtain⟨k,hk,hr,h3⟩:=comm_pre [z] (T'.drop l.length) (T'.drop l.length) (cm_end hz _) (fun f hf=>by
  cases f with
  | zero=>rfl
  | succ f=>rw[commF_succ,hz',if_neg (by rw[cm_end (by rw[ekT_kind he];exact hz)];decide)]) _ T'.length l (T'.take l.length) r hs1 e (by have:=hbr.1.pos;simp only[List.length_singleton];omega) lrf (by rw[← hl];exact lrf)
 refine⟨k,by simp;omega,by rw[List.drop_append_of_le_length hk];exact hr,?_⟩;rw[← hl]at h3;rw[h3]
 congr 1
 conv=>rhs;rw[hl]
 by_cases hkl:k=l.length
 ·rw[if_pos hkl,hkl,List.drop_left' hl2]
 ·rw[if_neg hkl,List.drop_append_of_le_length (by omega)]
inductive ItR {α:Type} (w:List UInt8) (p:List TokD→PR α):List TokD→List α→List TokD→List Nat→Prop where
 | stop {ts:List TokD} (h:seesB w ts=false):ItR w p ts [] ts []
 | go {ts t t2 r:List TokD} {m:α} {ms:List α} {ns:List Nat} (h:seesB w ts=true) (h1:p ts=.ok m t) (h2:commentsR t=.ok () t2) (h3:ItR w p t2 ms r ns):ItR w p ts (m::ms) r (ts.length::ns)
section
variable {α:Type} {w:List UInt8} {p:List TokD→PR α}
theorem ItR.facts {ts r:List TokD} {ms:List α} {ns:List Nat} (h:ItR w p ts ms r ns) (hp:Takes p):TsB ts→TsB r∧r.length≤ts.length∧(∀ n∈ns,n≤ts.length)∧seesB w r=false:=by
 induction h with
 | stop h=>exact fun hb=>⟨hb,lrf,by simp,h⟩
 | go h h1 h2 h3 ih=>
  intro hb;obtain⟨b1,l1⟩:=hp _ _ _ h1 hb;obtain⟨b2,l2⟩:=comm_keeps _ _ _ h2 b1;obtain⟨a1,a2,a3,a4⟩:=ih b2;refine⟨a1,by omega,fun n hn=>?_,a4⟩;rcases List.mem_cons.1 hn with rfl|hn
  ·exact lrf
  ·have:=a3 n hn;omega
theorem sees_sameL {ts ts':List TokD} (h:SameL ts ts') (v:List UInt8):seesB v ts=seesB v ts':=by
 cases ts with
 | nil=>rw[h.nil]
 | cons a l=>
  obtain⟨a',l',rfl,he,-⟩:=h.cons;exact sees_same he
theorem ItR.post {R:α→α→Prop} {ts r:List TokD} {ms:List α} {ns:List Nat} (h:ItR w p ts ms r ns) (hp:Takes p) (hf:Fr R p p):∀ {ts':List TokD},SameL ts ts'→TsB ts→∃ ms' r' ns',ItR w p ts' ms' r' ns'∧All2 R ms ms'∧SameL r r':=by
 induction h with
 | stop h=>
  intro ts' hs hb;exact⟨[],ts',[],.stop (by rw[← sees_sameL hs];exact h),.nil,hs⟩
 | go h h1 h2 h3 ih=>
  intro ts' hs hb;obtain⟨b1,l1⟩:=hp _ _ _ h1 hb;obtain⟨b2,l2⟩:=comm_keeps _ _ _ h2 b1;obtain⟨k,m',hk,rfl,e1,hR⟩:=hf.post hs hb h1;obtain⟨k2,hk2,rfl,e2⟩:=comm_post (hs.drop k) b1 h2;obtain⟨ms',r',ns',i1,i2,i3⟩:=ih ((hs.drop k).drop k2) b2;exact⟨m' :: ms',r',_,.go (by rw[← sees_sameL hs];exact h) e1 e2 i1,.cons hR i2,i3⟩
theorem ItR.ins {R:α→α→Prop} {B D E:List TokD} (hB:Hard B) (hD:Hard D) (hc:seesB [67,77,95] B=false) (hE:∀ f,D.length≤f→commF f D=.ok () E) (hBE:SameL B E) {ts r:List TokD} {ms:List α} {ns:List Nat} (h:ItR w p ts ms r ns) (hp:Takes p) (hf:Fr R p p) :
  ∀ {A A':List TokD},ts=A++B→A≠[]→SameL A A'→TsB ts→(B.length∈ns∨B.length≤r.length) →
   ∃ ms' r' ns',ItR w p (A' ++ D) ms' r' ns'∧All2 R ms ms'∧((∃ k,k < A.length∧r=A.drop k++B∧r' = A'.drop k++D)∨(r.length≤B.length∧SameL r r')):=by
 induction h with
 | stop h=>
  intro A A' e hA hs hb hn;subst e;refine⟨[],A' ++ D,[],.stop ?_,.nil,.inl ⟨0,List.length_pos_iff.2 hA,rfl,rfl⟩⟩;cases A with
  | nil=>exact absurd rfl hA
  | cons a l=>
   obtain⟨a',l',rfl,he,-⟩:=hs.cons;rw[List.cons_append,← sees_same (l:=l++B) he];exact h
 | @go ts t t2 r m ms ns h h1 h2 h3 ih=>
  intro A A' e hA hs hb hn;subst e;obtain⟨b1,l1⟩:=hp _ _ _ h1 hb;obtain⟨b2,l2⟩:=comm_keeps _ _ _ h2 b1;obtain⟨a1,a2,a3,a4⟩:=h3.facts hp b2;have hA0:=List.length_pos_iff.2 hA;have hn2:B.length∈ns∨B.length≤r.length:=by
   rcases hn with hn|hn
   ·rcases List.mem_cons.1 hn with h0|h0
    ·rw[List.length_append]at h0;omega
    ·exact .inl h0
   ·exact .inr hn
  have hle:B.length≤t2.length:=by
   rcases hn2 with h0|h0
   ·exact a3 _ h0
   ·exact Nat.le_trans h0 a2
  obtain⟨k,m',hk,rfl,e1,hR⟩:=hf.fr A A' B D _ _ hs hB hD hb h1 (by omega);have hl2:=hs.len;obtain⟨k2,hk2,rfl,e2⟩:=comm_pre B D E hc hE _ (A'.drop k++D).length (A.drop k) (A'.drop k) _ (hs.drop k) h2 hle lrf lrf;have hw:seesB w (A' ++ D)=true:=by
   cases A with
   | nil=>exact absurd rfl hA
   | cons a l=>
    obtain⟨a',l',rfl,he,-⟩:=hs.cons;rw[List.cons_append,← sees_same (l:=l++B) he];exact h
  by_cases hkk:k2=(A.drop k).length
  ·rw[if_pos hkk]at e2;have e0:(A.drop k).drop k2=[]:=(by rw[List.drop_eq_nil_iff];omega);rw[e0,List.nil_append]at h3 b2 a2;obtain⟨ms',r',ns',i1,i2,i3⟩:=h3.post hp hf hBE b2;exact⟨m' :: ms',r',_,.go hw e1 e2 i1,.cons hR i2,.inr ⟨a2,i3⟩⟩
  ·rw[if_neg hkk]at e2;have hne:(A.drop k).drop k2≠[]:=by
    intro h0;rw[List.drop_eq_nil_iff]at h0;omega
   obtain⟨ms',r',ns',i1,i2,i3⟩:=ih rfl hne ((hs.drop k).drop k2) b2 hn2;refine⟨m' :: ms',r',_,.go hw e1 e2 i1,.cons hR i2,?_⟩;rcases i3 with ⟨q,q1,q2,q3⟩|i3
   ·refine .inl ⟨k+k2+q,?_,?_,?_⟩
    ·simp only[List.length_drop]at q1;omega
    ·rw[q2,List.drop_drop,List.drop_drop,Nat.add_assoc]
    ·rw[q3,List.drop_drop,List.drop_drop,Nat.add_assoc]
   ·exact .inr i3
end
theorem mssD_run:∀ (f:Nat) (l:List MsgD) (ts:List TokD) (x:List MsgD) (r:List TokD),ts.length≤f→TsB ts→l.length≤512→mssD f l ts=.ok x r→∃ ms ns,x=l++ms∧ItR [66,79,95] messageR ts ms r ns∧l.length+ms.length≤512
 | 0,l,ts,x,r,hf,hb,hl,h=>absurd hb.pos (by omega)
 | f+1,l,ts,x,r,hf,hb,hl,h=>by
  unfold mssD at h;by_cases h0:seesB [66,79,95] ts=true
  ·rw[if_pos h0]at h;by_cases h1:l.length=512
   ·rw[if_pos h1]at h;cases h
   ·rw[if_neg h1]at h;obtain⟨m,t,e1,h⟩:=bind_inv h;obtain⟨u,t2,e2,h⟩:=bind_inv h;obtain⟨b1,l1⟩:=message_takes _ _ _ e1 hb;obtain⟨b2,l2⟩:=comm_keeps _ _ _ e2 b1;obtain⟨ms,ns,rfl,i1,i2⟩:=mssD_run f (l++[m]) t2 x r (by omega) b2 (by simp;omega) h;exact⟨m::ms,_,by simp,.go h0 e1 e2 i1,by simp at i2 ⊢;omega⟩
  ·rw[if_neg h0]at h;cases h
   exact⟨[],[],by simp,.stop (by simpa using h0),by simpa using hl⟩
theorem mssD_of {ts r:List TokD} {ms:List MsgD} {ns:List Nat} (h:ItR [66,79,95] messageR ts ms r ns):∀ (f:Nat) (l:List MsgD),ts.length≤f→TsB ts→l.length+ms.length≤512→mssD f l ts=.ok (l++ms) r:=by
 induction h with
 | @stop ts h=>
  intro f l hf hb hl;cases f with
  | zero=>exact absurd hb.pos (by omega)
  | succ f=>
   unfold mssD;rw[if_neg (by rw[h];decide),List.append_nil]
 | @go ts t t2 r m ms ns h h1 h2 h3 ih=>
  intro f l hf hb hl;cases f with
  | zero=>exact absurd hb.pos (by omega)
  | succ f=>
   obtain⟨b1,l1⟩:=message_takes _ _ _ h1 hb;obtain⟨b2,l2⟩:=comm_keeps _ _ _ h2 b1;unfold mssD;rw[if_pos h,if_neg (by simp at hl;omega),h1,PR.bind_ok,h2,PR.bind_ok,ih f (l++[m]) (by omega) b2 (by simp at hl ⊢;omega)];simp
theorem tbsD_run:∀ (f:Nat) (l:List TabD) (ts:List TokD) (x:List TabD) (r:List TokD),ts.length≤f→TsB ts→tbsD f l ts=.ok x r→∃ ms ns,x=l++ms∧ItR [86,65,76,95] tableR ts ms r ns
 | 0,l,ts,x,r,hf,hb,h=>absurd hb.pos (by omega)
 | f+1,l,ts,x,r,hf,hb,h=>by
  unfold tbsD at h;by_cases h0:seesB [86,65,76,95] ts=true
  ·rw[if_pos h0]at h;obtain⟨m,t,e1,h⟩:=bind_inv h;obtain⟨u,t2,e2,h⟩:=bind_inv h;obtain⟨b1,l1⟩:=table_takes _ _ _ e1 hb;obtain⟨b2,l2⟩:=comm_keeps _ _ _ e2 b1;obtain⟨ms,ns,rfl,i1⟩:=tbsD_run f (l++[m]) t2 x r (by omega) b2 h;exact⟨m::ms,_,by simp,.go h0 e1 e2 i1⟩
  ·rw[if_neg h0]at h;cases h
   exact⟨[],[],by simp,.stop (by simpa using h0)⟩
theorem tbsD_of {ts r:List TokD} {ms:List TabD} {ns:List Nat} (h:ItR [86,65,76,95] tableR ts ms r ns):∀ (f:Nat) (l:List TabD),ts.length≤f→TsB ts→tbsD f l ts=.ok (l++ms) r:=by
 induction h with
 | @stop ts h=>
  intro f l hf hb;cases f with
  | zero=>exact absurd hb.pos (by omega)
  | succ f=>
   unfold tbsD;rw[if_neg (by rw[h];decide),List.append_nil]
 | @go ts t t2 r m ms ns h h1 h2 h3 ih=>
  intro f l hf hb;cases f with
  | zero=>exact absurd hb.pos (by omega)
  | succ f=>
   obtain⟨b1,l1⟩:=table_takes _ _ _ h1 hb;obtain⟨b2,l2⟩:=comm_keeps _ _ _ h2 b1;unfold tbsD;rw[if_pos h,h1,PR.bind_ok,h2,PR.bind_ok,ih f (l++[m]) (by omega) b2];simp
def Mode1 (B D:List TokD) (ts ts':List TokD):Prop:=(∃ A A',A≠[]∧ts=A++B∧ts' = A' ++ D∧SameL A A')∨(SameL ts ts'∧ts.length≤B.length)
theorem Mode1.sees {B D ts ts':List TokD} (h:Mode1 B D ts ts') (w:List UInt8):seesB w ts=seesB w ts':=by
 rcases h with ⟨A,A',h0,rfl,rfl,hs⟩|⟨h,-⟩
 ·cases A with
  | nil=>exact absurd rfl h0
  | cons a l=>
   obtain⟨a',l',rfl,he,-⟩:=hs.cons;exact sees_same he
 ·exact sees_sameL h w
theorem mode_comm {B D E:List TokD} (hc:seesB [67,77,95] B=false) (hE:∀ f,D.length≤f→commF f D=.ok () E) (hBE:SameL B E) {A A' r:List TokD} (hs:SameL A A') (e:commentsR (A++B)=.ok () r) (hl:B.length≤r.length) :
  ∃ r',commentsR (A' ++ D)=.ok () r'∧Mode1 B D r r':=by
 obtain⟨k,hk,rfl,e2⟩:=comm_pre B D E hc hE _ (A' ++ D).length A A' _ hs e hl lrf lrf;refine⟨_,e2,?_⟩;by_cases hkk:k=A.length
 ·rw[if_pos hkk,hkk,List.drop_length,List.nil_append];exact .inr ⟨hBE,lrf⟩
 ·rw[if_neg hkk];refine .inl ⟨A.drop k,A'.drop k,?_,rfl,rfl,hs.drop k⟩;intro h0;rw[List.drop_eq_nil_iff]at h0;omega
theorem stage {α:Type} {R:α→α→Prop} {p:List TokD→PR α} {B D E:List TokD} (hB:Hard B) (hD:Hard D) (hc:seesB [67,77,95] B=false) (hE:∀ f,D.length≤f→commF f D=.ok () E) (hBE:SameL B E) (hf:Fr R p p)
  {ts ts' t t2:List TokD} {x:α} (h:Mode1 B D ts ts') (hb:TsB ts) (e1:p ts=.ok x t) (e2:commentsR t=.ok () t2) (hl:B.length < ts.length→B.length≤t2.length) :
  ∃ x' t' t2',p ts' = .ok x' t'∧commentsR t' = .ok () t2'∧R x x'∧Mode1 B D t2 t2':=by
 obtain⟨b1,l1⟩:=hf.keep _ _ _ e1 hb;obtain⟨b2,l2⟩:=comm_keeps _ _ _ e2 b1;rcases h with ⟨A,A',h0,rfl,rfl,hs⟩|⟨hs,hlb⟩
 ·have hle:=hl (by rw[List.length_append];have:=List.length_pos_iff.2 h0;omega);obtain⟨k,x',hk,rfl,h2,h3⟩:=hf.fr A A' B D x t hs hB hD hb e1 (by omega);obtain⟨r',g1,g2⟩:=mode_comm hc hE hBE (hs.drop k) e2 hle;exact⟨x',_,r',h2,g1,h3,g2⟩
 ·obtain⟨k,x',hk,rfl,h2,h3⟩:=hf.post hs hb e1;obtain⟨k2,hk2,rfl,h4⟩:=comm_post (hs.drop k) b1 e2;exact⟨x',_,_,h2,h4,h3,.inr ⟨(hs.drop k).drop k2,by omega⟩⟩
theorem Mode1.run {α:Type} {w:List UInt8} {p:List TokD→PR α} {R:α→α→Prop} {B D E:List TokD} (hB:Hard B) (hD:Hard D) (hc:seesB [67,77,95] B=false) (hE:∀ f,D.length≤f→commF f D=.ok () E) (hBE:SameL B E) (hp:Takes p) (hf:Fr R p p)
  {ts ts' r:List TokD} {ms:List α} {ns:List Nat} (h:Mode1 B D ts ts') (hi:ItR w p ts ms r ns) (hb:TsB ts) (hn:B.length < ts.length→(B.length∈ns∨B.length≤r.length)) :
  ∃ ms' r' ns',ItR w p ts' ms' r' ns'∧All2 R ms ms'∧Mode1 B D r r':=by
 obtain⟨a1,a2,-⟩:=hi.facts hp hb;rcases h with ⟨A,A',h0,rfl,rfl,hs⟩|⟨hs,hlb⟩
 ·obtain⟨ms',r',ns',i1,i2,i3⟩:=hi.ins hB hD hc hE hBE hp hf rfl h0 hs hb (hn (by rw[List.length_append];have:=List.length_pos_iff.2 h0;omega));refine⟨ms',r',ns',i1,i2,?_⟩;rcases i3 with ⟨k,k1,k2,k3⟩|⟨k1,k2⟩
  ·refine .inl ⟨A.drop k,A'.drop k,?_,k2,k3,hs.drop k⟩;intro h0;rw[List.drop_eq_nil_iff]at h0;omega
  ·exact .inr ⟨k2,k1⟩
 ·obtain⟨ms',r',ns',i1,i2,i3⟩:=hi.post hp hf hs hb;exact⟨ms',r',ns',i1,i2,.inr ⟨i3,by omega⟩⟩
def staP (ts:List TokD):PR (TokD×List (List UInt8)):=(mustR [66,85,95] ts).bind fun t ts=>(mustR [58] ts).bind fun _ ts=>(namsF ts.length [] ts).bind fun ns ts=>.ok (t,ns) ts
theorem fr_sta:Fr (fun x y=>x.2=y.2) staP staP:=by
 unfold staP;exact Fr.bind (fr_must _) (fun _=>rfl) fun _ _ _=>Fr.bind (fr_must _) (fun _=>rfl) fun _ _ _=>Fr.bind (fr_nams _) (fun _=>rfl) fun y y' h=>Fr.pure h
def verP (ts:List TokD):PR (TokD×List UInt8):=(mustR [86,69,82,83,73,79,78] ts).bind fun t ts=>(nextR 3 ts).bind fun x ts=>.ok (t,x.text) ts
theorem fr_ver:Fr (fun x y=>x.2=y.2) verP verP:=by
 unfold verP;exact Fr.bind (fr_must _) (fun _=>rfl) fun _ _ _=>Fr.bind (fr_next _) (fun _=>rfl) fun y y' h=>Fr.pure (ekT_text h).symm
theorem verX_eq (ts:List TokD):verX ts=if seesB [86,69,82,83,73,79,78] ts then (verP ts).bind fun v ts=>(commentsR ts).bind fun _ ts=>.ok (true,⟨v.1.line,v.1.col,v.2⟩) ts else .ok (false,⟨0,0,[]⟩) ts:=by
 unfold verX verP;split
 ·rename_i h
  rw[show mustR [86,69,82,83,73,79,78] ts=.ok (headT ts) ts.tail by unfold mustR;rw[if_pos h]];simp only[PR.bind_ok,bind_assoc]
 ·rfl
theorem dbR_eq (ts:List TokD):dbR ts=(commentsR ts).bind fun _ ts=>(verX ts).bind fun v ts=>(staP ts).bind fun s ts=>(commentsR ts).bind fun _ ts=>(mssD ts.length [] ts).bind fun ms ts=>
  (tbsD ts.length [] ts).bind fun tb ts=>endD ⟨v.1,v.2,⟨s.1.line,s.1.col,s.2⟩,ms,tb⟩ ts:=by
 unfold dbR staP;simp only[PR.bind_ok,bind_assoc]
def DbRun (T:List TokD) (d:DbD) (hs:List Nat):Prop:=∃ (T1 T2 t3 T4 T5 T6:List TokD) (n1 n2:List Nat) (s:TokD×List (List UInt8)),commentsR T=.ok () T1 ∧
 ((seesB [86,69,82,83,73,79,78] T1=true∧∃ v t,verP T1=.ok v t∧commentsR t=.ok () T2∧d.has=true∧d.ver=⟨v.1.line,v.1.col,v.2⟩)∨(seesB [86,69,82,83,73,79,78] T1=false∧T2=T1∧d.has=false∧d.ver=⟨0,0,[]⟩)) ∧
 staP T2=.ok s t3∧commentsR t3=.ok () T4∧ItR [66,79,95] messageR T4 d.msgs T5 n1∧d.msgs.length≤512∧ItR [86,65,76,95] tableR T5 d.tabs T6 n2∧(headT T6).kind=0∧d.sta=⟨s.1.line,s.1.col,s.2⟩ ∧
 hs=(if d.has then [T1.length] else [])++T2.length::(n1++n2++[T6.length])
theorem ItR.above {α:Type} {w:List UInt8} {p:List TokD→PR α} {ts r:List TokD} {ms:List α} {ns:List Nat} (h:ItR w p ts ms r ns) (hp:Takes p):TsB ts→∀ n∈ns,r.length < n:=by
 induction h with
 | stop h=>exact fun hb n hn=>by cases hn
 | @go ts t t2 r m ms ns h h1 h2 h3 ih=>
  intro hb n hn;obtain⟨b1,l1⟩:=hp _ _ _ h1 hb;obtain⟨b2,l2⟩:=comm_keeps _ _ _ h2 b1;obtain⟨-,l3,-⟩:=h3.facts hp b2;rcases List.mem_cons.1 hn with rfl|hn
  ·omega
  ·exact ih b2 n hn
theorem all2_map {α β:Type} {R:α→α→Prop} {f:α→β} (hf:∀ x y,R x y→f x=f y) {xs ys:List α} (h:All2 R xs ys):xs.map f=ys.map f:=by
 induction h with
 | nil=>rfl
 | cons h _ ih=>rw[List.map_cons,List.map_cons,hf _ _ h,ih]
theorem Mode1.kind {B D ts ts':List TokD} (h:Mode1 B D ts ts') (hk:(headT ts).kind=0):(headT ts').kind=0:=by
 rcases h with ⟨A,A',h0,rfl,rfl,hs⟩|⟨hs,-⟩
 ·cases A with
  | nil=>exact absurd rfl h0
  | cons a l=>
   obtain⟨a',l',rfl,he,-⟩:=hs.cons;show a'.kind=0;rw[ekT_kind he];exact hk
 ·cases ts with
  | nil=>rw[hs.nil];rfl
  | cons a l=>
   obtain⟨a',l',rfl,he,-⟩:=hs.cons;show a'.kind=0;rw[ekT_kind he];exact hk
theorem db_run {T r:List TokD} {d:DbD} (h:dbR T=.ok d r) (hb:TsB T):∃ hs,DbRun T d hs:=by
 rw[dbR_eq]at h;obtain⟨u,T1,e1,h⟩:=bind_inv h;obtain⟨v,T2,e2,h⟩:=bind_inv h;obtain⟨s,t3,e3,h⟩:=bind_inv h;obtain⟨u2,T4,e4,h⟩:=bind_inv h;obtain⟨ms,T5,e5,h⟩:=bind_inv h;obtain⟨tb,T6,e6,h⟩:=bind_inv h;obtain⟨b1,l1⟩:=comm_keeps _ _ _ e1 hb;have hv:((seesB [86,69,82,83,73,79,78] T1=true∧∃ v0 t,verP T1=.ok v0 t∧commentsR t=.ok () T2∧v.1=true∧v.2=⟨v0.1.line,v0.1.col,v0.2⟩)∨(seesB [86,69,82,83,73,79,78] T1=false∧T2=T1∧v.1=false∧v.2=⟨0,0,[]⟩))∧TsB T2:=by
  rw[verX_eq]at e2;by_cases h0:seesB [86,69,82,83,73,79,78] T1=true
  ·rw[if_pos h0]at e2;obtain⟨v0,t,g1,e2⟩:=bind_inv e2;obtain⟨u3,t2,g2,e2⟩:=bind_inv e2;obtain⟨b2,-⟩:=fr_ver.keep _ _ _ g1 b1;obtain⟨b3,-⟩:=comm_keeps _ _ _ g2 b2;cases e2
   exact⟨.inl ⟨h0,v0,t,g1,g2,rfl,rfl⟩,b3⟩
  ·rw[if_neg h0]at e2;cases e2
   exact⟨.inr ⟨by simpa using h0,rfl,rfl,rfl⟩,b1⟩
 obtain⟨hv,b2⟩:=hv;obtain⟨b3,-⟩:=fr_sta.keep _ _ _ e3 b2;obtain⟨b4,-⟩:=comm_keeps _ _ _ e4 b3;obtain⟨ms',n1,rfl,i1,i2⟩:=mssD_run _ _ _ _ _ lrf b4 (by simp) e5;obtain⟨b5,-⟩:=i1.facts message_takes b4;obtain⟨tb',n2,rfl,i3⟩:=tbsD_run _ _ _ _ _ lrf b5 e6;unfold endD formR wrongR at h;split at h
 ·rename_i hk
  cases h
  exact⟨_,T1,T2,t3,T4,T5,_,n1,n2,s,e1,hv,e3,e4,by simpa using i1,by simpa using i2,by simpa using i3,hk,rfl,rfl⟩
 ·cases h
theorem db_of {T:List TokD} {d:DbD} {hs:List Nat} (h:DbRun T d hs) (hb:TsB T):∃ r,dbR T=.ok d r:=by
 obtain⟨T1,T2,t3,T4,T5,T6,n1,n2,s,e1,hv,e3,e4,i1,i2,i3,hk,hs,-⟩:=h;obtain⟨b1,-⟩:=comm_keeps _ _ _ e1 hb;have hv2:verX T1=.ok (d.has,d.ver) T2∧TsB T2:=by
  rw[verX_eq];rcases hv with ⟨h0,v,t,g1,g2,g3,g4⟩|⟨h0,rfl,g3,g4⟩
  ·obtain⟨b2,-⟩:=fr_ver.keep _ _ _ g1 b1;obtain⟨b3,-⟩:=comm_keeps _ _ _ g2 b2;rw[if_pos h0,g1,PR.bind_ok,g2,PR.bind_ok,g3,g4];exact⟨rfl,b3⟩
  ·rw[if_neg (by rw[h0];decide),g3,g4];exact⟨rfl,b1⟩
 obtain⟨hv2,b2⟩:=hv2;obtain⟨b3,-⟩:=fr_sta.keep _ _ _ e3 b2;obtain⟨b4,-⟩:=comm_keeps _ _ _ e4 b3;obtain⟨b5,-⟩:=i1.facts message_takes b4;refine⟨T6,?_⟩;rw[dbR_eq,e1,PR.bind_ok,hv2,PR.bind_ok,e3,PR.bind_ok,e4,PR.bind_ok,mssD_of i1 _ [] lrf b4 (by simpa using i2),PR.bind_ok,tbsD_of i3 _ [] lrf b5,PR.bind_ok];unfold endD;rw[if_pos hk,← hs];rfl
theorem run_ins {T:List TokD} {d:DbD} {hs:List Nat} (h:DbRun T d hs) (hb:TsB T) {A A' B D E:List TokD} (hT:T=A++B) (hA:SameL A A') (hB:Hard B) (hD:Hard D) (hc:seesB [67,77,95] B=false) (hE:∀ f,D.length≤f→commF f D=.ok () E) (hBE:SameL B E) (hn:B.length∈hs) :
  ∃ d' hs',DbRun (A' ++ D) d' hs'∧bareD d' = bareD d:=by
 subst hT;obtain⟨T1,T2,t3,T4,T5,T6,n1,n2,s,e1,hv,e3,e4,i1,i2,i3,hk,hst,rfl⟩:=h;obtain⟨b1,-⟩:=comm_keeps _ _ _ e1 hb;have hT2:TsB T2∧T2.length≤T1.length:=by
  rcases hv with ⟨h0,v,t,g1,g2,g3,g4⟩|⟨h0,rfl,g3,g4⟩
  ·obtain⟨b2,l2⟩:=fr_ver.keep _ _ _ g1 b1;obtain⟨b3,l3⟩:=comm_keeps _ _ _ g2 b2;exact⟨b3,by omega⟩
  ·exact⟨b1,lrf⟩
 obtain⟨b2,l2⟩:=hT2;obtain⟨b3,l3⟩:=fr_sta.keep _ _ _ e3 b2;obtain⟨b4,l4⟩:=comm_keeps _ _ _ e4 b3;obtain⟨b5,l5,m1,-⟩:=i1.facts message_takes b4;obtain⟨b6,l6,m2,-⟩:=i3.facts table_takes b5;have hn2:(d.has=true∧B.length=T1.length)∨B.length=T2.length∨B.length∈n1∨B.length∈n2∨B.length=T6.length:=by
  rcases List.mem_append.1 hn with h0|h0
  ·by_cases hh:d.has=true
   ·simp[hh]at h0;exact .inl ⟨hh,h0⟩
   ·simp[hh]at h0
  ·rcases List.mem_cons.1 h0 with h0|h0
   ·exact .inr (.inl h0)
   ·rcases List.mem_append.1 h0 with h0|h0
    ·rcases List.mem_append.1 h0 with h0|h0
     ·exact .inr (.inr (.inl h0))
     ·exact .inr (.inr (.inr (.inl h0)))
    ·exact .inr (.inr (.inr (.inr (by simpa using h0))))
 have hB1:B.length≤T1.length:=by
  rcases hn2 with ⟨-,h0⟩|h0|h0|h0|h0
  ·omega
  ·omega
  ·have:=m1 _ h0;omega
  ·have:=m2 _ h0;omega
  ·omega
 obtain⟨T1',e1',M1⟩:=mode_comm hc hE hBE hA e1 hB1;have hv':∃ T2' has ver,((seesB [86,69,82,83,73,79,78] T1' = true∧∃ v t,verP T1' = .ok v t∧commentsR t=.ok () T2'∧has=true∧ver=(⟨v.1.line,v.1.col,v.2⟩:VerD))∨(seesB [86,69,82,83,73,79,78] T1' = false∧T2' = T1'∧has=false∧ver=⟨0,0,[]⟩))∧Mode1 B D T2 T2'∧has=d.has∧ver.text=d.ver.text:=by
  rcases hv with ⟨h0,v,t,g1,g2,g3,g4⟩|⟨h0,rfl,g3,g4⟩
  ·obtain⟨v',t',T2',j1,j2,j3,j4⟩:=stage hB hD hc hE hBE fr_ver M1 b1 g1 g2 (fun hlt=>by
    rcases hn2 with ⟨-,h0⟩|h0|h0|h0|h0
    ·omega
    ·omega
    ·have:=m1 _ h0;omega
    ·have:=m2 _ h0;omega
    ·omega)
   exact⟨T2',true,⟨v'.1.line,v'.1.col,v'.2⟩,.inl ⟨by rw[← M1.sees];exact h0,v',t',j1,j2,rfl,rfl⟩,j4,g3.symm,by rw[g4];exact j3.symm⟩
  ·exact⟨T1',false,⟨0,0,[]⟩,.inr ⟨by rw[← M1.sees];exact h0,rfl,rfl,rfl⟩,M1,g3.symm,by rw[g4]⟩
 obtain⟨T2',has,ver,hv',M2,hh,hvt⟩:=hv';have hn3:B.length < T2.length→B.length∈n1∨B.length∈n2∨B.length=T6.length:=by
  intro hlt;rcases hn2 with ⟨-,h0⟩|h0|h0
  ·omega
  ·omega
  ·exact h0
 obtain⟨s',t3',T4',e3',e4',hs',M4⟩:=stage hB hD hc hE hBE fr_sta M2 b2 e3 e4 (fun hlt=>by
  rcases hn3 hlt with h0|h0|h0
  ·exact m1 _ h0
  ·have:=m2 _ h0;omega
  ·omega)
 obtain⟨ms',T5',n1',i1',a1,M5⟩:=M4.run hB hD hc hE hBE message_takes fr_message i1 b4 (fun hlt=>by
  rcases hn3 (by omega)with h0|h0|h0
  ·exact .inl h0
  ·exact .inr (m2 _ h0)
  ·exact .inr (by omega))
 obtain⟨tb',T6',n2',i3',a2,M6⟩:=M5.run hB hD hc hE hBE table_takes fr_table i3 b5 (fun hlt=>by
  rcases hn3 (by omega)with h0|h0|h0
  ·have:=i1.above message_takes b4 _ h0;omega
  ·exact .inl h0
  ·exact .inr (by omega))
 have hl1:=a1.len;refine⟨⟨has,ver,⟨s'.1.line,s'.1.col,s'.2⟩,ms',tb'⟩,_,⟨T1',T2',t3',T4',T5',T6',n1',n2',s',e1',hv',e3',e4',i1',by show ms'.length≤512;omega,i3',M6.kind hk,rfl,rfl⟩,?_⟩;have z1:d.msgs.map zMsg=ms'.map zMsg:=all2_map (fun _ _ h=>h) a1;have z2:d.tabs.map zTab=tb'.map zTab:=all2_map (fun _ _ h=>h) a2;obtain⟨dh,dv,ds,dm,dt⟩:=d;dsimp only at *;subst hh;unfold bareD;simp only[z1,z2,hst,hvt,hs']
def HeadAt (T:List TokD) (n:Nat) (m:Mark):Prop:=∃ A B,T=A++B∧B.length=n∧Hard B∧seesB [67,77,95] B=false∧mkT (headT B)=m
theorem sees_head {w:List UInt8} {ts:List TokD} (h:seesB w ts=true) (hw:w≠[]):(headT ts).text=w∧((headT ts).kind=1∨(headT ts).kind=4)∧ts≠[]:=by
 unfold seesB at h;simp only[Bool.and_eq_true,decide_eq_true_eq,Bool.or_eq_true,beq_iff_eq]at h;refine⟨h.1,h.2,fun e=>?_⟩;subst e;exact hw h.1.symm
theorem HeadAt.of {T B:List TokD} (hs:B <:+ T) {w:List UInt8} (hw:w∈hardW) (hne:w≠[67,77,95]) (h0:w≠[]) (h:seesB w B=true):HeadAt T B.length (w,(headT B).line,(headT B).col):=by
 obtain⟨A,rfl⟩:=hs;obtain⟨h1,h2,h3⟩:=sees_head h h0;refine⟨A,B,rfl,rfl,⟨h3,.inr ⟨h2,by rw[h1];exact hw⟩⟩,?_,?_⟩
 ·unfold seesB;rw[h1];simp[hne]
 ·unfold mkT;rw[h1]
theorem HeadAt.up {T T':List TokD} (hs:T' <:+ T) {n:Nat} {m:Mark} (h:HeadAt T' n m):HeadAt T n m:=by
 obtain⟨A,B,rfl,h2⟩:=h;obtain⟨A0,rfl⟩:=hs;exact⟨A0++A,B,by simp,h2⟩
theorem fr_suf {α:Type} {R:α→α→Prop} {p:List TokD→PR α} (hf:Fr R p p) {ts r:List TokD} {x:α} (hb:TsB ts) (e:p ts=.ok x r):r <:+ ts:=by
 obtain⟨k,x',-,rfl,-⟩:=hf.post (T':=ts) rfl hb e;exact List.drop_suffix _ _
theorem comm_suf {ts r:List TokD} (hb:TsB ts) (e:commentsR ts=.ok () r):r <:+ ts:=by
 obtain⟨k,-,rfl,-⟩:=comm_post (T':=ts) rfl hb e;exact List.drop_suffix _ _
theorem ItR.heads {α:Type} {R:α→α→Prop} {w:List UInt8} {p:List TokD→PR α} (hp:Takes p) (hf:Fr R p p) (hw:w∈hardW) (hne:w≠[67,77,95]) (h0:w≠[]) {pl:α→Int×Int} (hpl:∀ ts m t,p ts=.ok m t→pl m=((headT ts).line,(headT ts).col))
  {ts r:List TokD} {ms:List α} {ns:List Nat} (h:ItR w p ts ms r ns):TsB ts→r <:+ ts∧All2 (HeadAt ts) ns (ms.map fun m=>(w,pl m)):=by
 induction h with
 | stop h=>exact fun hb=>⟨List.suffix_refl _,.nil⟩
 | @go ts t t2 r m ms ns h h1 h2 h3 ih=>
  intro hb;obtain⟨b1,l1⟩:=hp _ _ _ h1 hb;obtain⟨b2,l2⟩:=comm_keeps _ _ _ h2 b1;obtain⟨i1,i2⟩:=ih b2;have s2:t2 <:+ ts:=(comm_suf b1 h2).trans (fr_suf hf hb h1);refine⟨i1.trans s2,.cons ?_ (i2.mono fun n m hm=>hm.up s2)⟩;show HeadAt ts ts.length (w,pl m);rw[hpl _ _ _ h1];exact HeadAt.of (List.suffix_refl _) hw hne h0 h
theorem message_place (ts:List TokD) (m:MsgD) (t:List TokD) (h:messageR ts=.ok m t):(m.line,m.col)=((headT ts).line,(headT ts).col):=by
 unfold messageR at h;obtain⟨x,t1,h1,h⟩:=bind_inv h;obtain⟨_,_,-,h⟩:=bind_inv h;obtain⟨_,_,-,h⟩:=bind_inv h;obtain⟨_,_,-,h⟩:=bind_inv h;obtain⟨_,_,-,h⟩:=bind_inv h;obtain⟨_,_,-,h⟩:=bind_inv h;obtain⟨_,_,-,h⟩:=bind_inv h;cases h
 unfold mustR formR wrongR at h1;split at h1
 ·cases h1;rfl
 ·cases h1
theorem table_place (ts:List TokD) (m:TabD) (t:List TokD) (h:tableR ts=.ok m t):(m.line,m.col)=((headT ts).line,(headT ts).col):=by
 unfold tableR at h;obtain⟨x,t1,h1,h⟩:=bind_inv h;obtain⟨_,_,-,h⟩:=bind_inv h;obtain⟨_,_,-,h⟩:=bind_inv h;obtain⟨_,_,-,h⟩:=bind_inv h;obtain⟨_,_,-,h⟩:=bind_inv h;cases h
 unfold mustR formR wrongR at h1;split at h1
 ·cases h1;rfl
 ·cases h1
theorem run_heads {T:List TokD} {d:DbD} {hs:List Nat} (h:DbRun T d hs) (hb:TsB T):∃ hl e,hs=hl++[e]∧All2 (HeadAt T) hl ((nodsD d).map headM)∧∃ A B,T=A++B∧B.length=e∧B≠[]∧(headT B).kind=0:=by
 obtain⟨T1,T2,t3,T4,T5,T6,n1,n2,s,e1,hv,e3,e4,i1,i2,i3,hk,hst,rfl⟩:=h;obtain⟨b1,-⟩:=comm_keeps _ _ _ e1 hb;have s1:=comm_suf hb e1;have hT2:TsB T2∧T2 <:+ T∧All2 (HeadAt T) (if d.has then [T1.length] else []) (if d.has then [([86,69,82,83,73,79,78],d.ver.line,d.ver.col)] else []):=by
  rcases hv with ⟨h0,v,t,g1,g2,g3,g4⟩|⟨h0,rfl,g3,g4⟩
  ·obtain⟨b2,-⟩:=fr_ver.keep _ _ _ g1 b1;obtain⟨b3,-⟩:=comm_keeps _ _ _ g2 b2;refine⟨b3,((comm_suf b2 g2).trans (fr_suf fr_ver b1 g1)).trans s1,?_⟩;rw[g3,g4];have hvp:v.1=headT T1:=by
    obtain⟨x,t1,k1,k2⟩:=bind_inv g1;obtain⟨y,t2,-,k3⟩:=bind_inv k2;cases k3
    rw[show mustR [86,69,82,83,73,79,78] T1=.ok (headT T1) T1.tail by unfold mustR;rw[if_pos h0]]at k1;cases k1
    rfl
   rw[hvp];exact .cons ((HeadAt.of (List.suffix_refl _) (by decide) (by decide) (by decide) h0).up s1) .nil
  ·refine⟨b1,s1,?_⟩;rw[g3];exact .nil
 obtain⟨b2,s2,a0⟩:=hT2;obtain⟨b3,-⟩:=fr_sta.keep _ _ _ e3 b2;obtain⟨b4,-⟩:=comm_keeps _ _ _ e4 b3;have s4:=((comm_suf b3 e4).trans (fr_suf fr_sta b2 e3)).trans s2;obtain⟨q1,a1⟩:=i1.heads message_takes fr_message (by decide) (by decide) (by decide) (pl:=fun m=>(m.line,m.col)) message_place b4;obtain⟨b5,-⟩:=i1.facts message_takes b4;obtain⟨q2,a2⟩:=i3.heads table_takes fr_table (by decide) (by decide) (by decide) (pl:=fun m=>(m.line,m.col)) table_place b5;obtain⟨b6,-⟩:=i3.facts table_takes b5;have hsh:HeadAt T T2.length ([66,85,95],d.sta.line,d.sta.col):=by
  obtain⟨x,t1,k1,k2⟩:=bind_inv e3;obtain⟨y,t2,-,k3⟩:=bind_inv k2;obtain⟨z,t4,-,k4⟩:=bind_inv k3;cases k4
  rw[hst];unfold mustR formR wrongR at k1;split at k1
  ·rename_i hse
   cases k1
   exact(HeadAt.of (List.suffix_refl _) (by decide) (by decide) (by decide) hse).up s2
  ·cases k1
 obtain⟨A,hA⟩:=(q2.trans q1).trans s4;refine⟨(if d.has then [T1.length] else [])++T2.length::(n1++n2),T6.length,by simp,?_,A,T6,hA.symm,rfl,List.length_pos_iff.1 b6.pos,hk⟩;have hm:(nodsD d).map headM=(if d.has then [(([86,69,82,83,73,79,78],d.ver.line,d.ver.col):Mark)] else [])++(([66,85,95],d.sta.line,d.sta.col)::(d.msgs.map (fun m=>(([66,79,95],m.line,m.col):Mark))++d.tabs.map (fun t=>(([86,65,76,95],t.line,t.col):Mark)))):=by
  unfold nodsD;cases d.has<;>simp[headM,Function.comp_def]
 rw[hm];exact a0.app (.cons hsh ((a1.mono fun n m h=>h.up s4).app (a2.mono fun n m h=>h.up (q1.trans s4))))
end Go.Proofs.YtjgjckipfkkgiaaGreatDoor
