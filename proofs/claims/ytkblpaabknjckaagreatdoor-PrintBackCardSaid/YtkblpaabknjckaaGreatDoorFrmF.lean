/-
  Plain: a source that is read, comments put in ahead of a part or behind all: the same database but for places.
-/
import Derived.Test.YtkblpaabknjckaaGreatDoorFilM
import Derived.Test.YtkblpaabknjckaaGreatDoorSamA
import Derived.Test.YtkblpaabknjckaaGreatDoorBaseD
import Derived.Test.YtkblpaabknjckaaGreatDoorNodD
set_option maxHeartbeats 128000000
set_option linter.unusedVariables false
namespace Go.Proofs.YtkblpaabknjckaaGreatDoor
open Go.RowKit Go.Shelf
def ekT (t:TokD):Int×List UInt8:=(t.kind,t.text)
def SameL (A A':List TokD):Prop:=A.map ekT=A'.map ekT
theorem SameL.len {A A':List TokD} (h:SameL A A'):A.length=A'.length:=by have:=congrArg List.length h;simpa using this
theorem SameL.drop {A A':List TokD} (h:SameL A A') (k:Nat):SameL (A.drop k) (A'.drop k):=by
 unfold SameL at *;rw[List.map_drop,List.map_drop,h]
theorem SameL.cons {a:TokD} {l A':List TokD} (h:SameL (a::l) A'):∃ a' l',A' = a' :: l'∧ekT a=ekT a'∧SameL l l':=by
 cases A' with
 | nil=>simp[SameL]at h
 | cons a' l'=>
  simp only[SameL,List.map_cons,List.cons.injEq]at h;exact⟨a',l',rfl,h.1,h.2⟩
theorem SameL.nil {A':List TokD} (h:SameL [] A'):A' = []:=by
 cases A' with
 | nil=>rfl
 | cons a' l'=>simp[SameL]at h
theorem ekT_kind {a a':TokD} (h:ekT a=ekT a'):a'.kind=a.kind:=(congrArg Prod.fst h).symm
theorem ekT_text {a a':TokD} (h:ekT a=ekT a'):a'.text=a.text:=(congrArg Prod.snd h).symm
def hardW:List (List UInt8):=[[86,69,82,83,73,79,78],[66,85,95],[66,79,95],[86,65,76,95],[67,77,95]]
def Hard (l:List TokD):Prop:=l≠[]∧((headT l).kind=0∨(((headT l).kind=1∨(headT l).kind=4)∧(headT l).text∈hardW))
structure Fr {α:Type} (R:α→α→Prop) (p p':List TokD→PR α):Prop where
 keep:Keeps p
 fr:∀ (A A' B D:List TokD) (x:α) (r:List TokD),SameL A A'→Hard B→Hard D→TsB (A++B)→p (A++B)=.ok x r→B.length≤r.length →
  ∃ k x',k≤A.length∧r=A.drop k++B∧p' (A' ++ D)=.ok x' (A'.drop k++D)∧R x x'
theorem Fr.bind {α β:Type} {R1:α→α→Prop} {R:β→β→Prop} {p p':List TokD→PR α} {g g':α→List TokD→PR β} (hp:Fr R1 p p') (hR:∀ y,R1 y y) (hg:∀ y y',R1 y y'→Fr R (g y) (g' y')) :
  Fr R (fun ts=>(p ts).bind g) (fun ts=>(p' ts).bind g') where
 keep:=Keeps.bind hp.keep fun y=>(hg y y (hR y)).keep
 fr:=fun A A' B D x r hs hB hD hb h hl=>by
  obtain⟨y,t,h1,h2⟩:=bind_inv h;obtain⟨hbt,hlt⟩:=hp.keep _ _ _ h1 hb;obtain⟨-,hlr⟩:=(hg y y (hR y)).keep _ _ _ h2 hbt;obtain⟨k,y',hk,rfl,h3,hy⟩:=hp.fr A A' B D y t hs hB hD hb h1 (by omega);obtain⟨k2,x',hk2,rfl,h4,hx⟩:=(hg y y' hy).fr (A.drop k) (A'.drop k) B D x r (hs.drop k) hB hD hbt h2 hl;rw[List.length_drop]at hk2;refine⟨k+k2,x',by omega,by rw[List.drop_drop],?_,hx⟩;rw[h3];show g' y' (A'.drop k++D)=_;rw[h4,List.drop_drop]
theorem Fr.pure {α:Type} {R:α→α→Prop} {x x':α} (h:R x x'):Fr R (fun ts=>.ok x ts) (fun ts=>.ok x' ts) where
 keep:=keeps_ok x
 fr:=fun A A' B D y r hs hB hD hb h2 hl=>by
  cases h2
  exact⟨0,x',Nat.zero_le _,rfl,rfl,h⟩
theorem fr_one {α:Type} {R:α→α→Prop} {p:List TokD→PR α} (ht:Takes p) (hA:∀ (a a':TokD) (l l':List TokD) (x:α) (r:List TokD),ekT a=ekT a'→p (a::l)=.ok x r→r=l∧∃ x',p (a' :: l')=.ok x' l'∧R x x'):Fr R p p where
 keep:=ht.keeps
 fr:=fun A A' B D x r hs hB hD hb h hl=>by
  cases A with
  | nil=>
   have:=(ht _ _ _ h hb).2;simp at this;omega
  | cons a l=>
   obtain⟨a',l',rfl,he,hs2⟩:=hs.cons;obtain⟨h1,x',h2,h3⟩:=hA a a' (l++B) (l' ++ D) x r he h;exact⟨1,x',by simp,by simpa using h1,by simpa using h2,h3⟩
theorem fr_must (w:List UInt8):Fr (fun t t'=>ekT t=ekT t') (mustR w) (mustR w):=fr_one (must_takes w) fun a a' l l' x r he h=>by
 obtain⟨k,tx,L,C⟩:=a;obtain⟨k',tx',L',C'⟩:=a';obtain⟨rfl,rfl⟩:k=k'∧tx=tx':=⟨congrArg Prod.fst he,congrArg Prod.snd he⟩
 unfold mustR at *;split at h
 ·rename_i h2
  cases h
  exact⟨rfl,_,if_pos h2,rfl⟩
 ·cases h
theorem fr_next (k:Int):Fr (fun t t'=>ekT t=ekT t') (nextR k) (nextR k):=fr_one (next_takes k) fun a a' l l' x r he h=>by
 obtain⟨k,tx,L,C⟩:=a;obtain⟨k',tx',L',C'⟩:=a';obtain⟨rfl,rfl⟩:k=k'∧tx=tx':=⟨congrArg Prod.fst he,congrArg Prod.snd he⟩
 unfold nextR at *;split at h
 ·rename_i h2
  cases h
  exact⟨rfl,_,if_pos h2,rfl⟩
 ·cases h
theorem fr_name:Fr Eq nameR nameR:=fr_one name_takes fun a a' l l' x r he h=>by
 obtain⟨k,tx,L,C⟩:=a;obtain⟨k',tx',L',C'⟩:=a';obtain⟨rfl,rfl⟩:k=k'∧tx=tx':=⟨congrArg Prod.fst he,congrArg Prod.snd he⟩
 unfold nameR at *;split at h
 ·rename_i h2
  split at h
  ·rename_i h3
   cases h
   exact⟨rfl,_,(if_pos h2).trans (if_pos h3),rfl⟩
  ·cases h
 ·cases h
theorem hard_named {l:List TokD} (h:Hard l):namedB l=false:=by
 unfold namedB;rcases h.2 with h|⟨h,h2⟩
 ·rw[h];simp
 ·have:(headT l).text∈sixW:=by
   unfold hardW at h2;unfold sixW;simp only[List.mem_cons,List.not_mem_nil,or_false]at h2 ⊢;rcases h2 with h2|h2|h2|h2|h2<;>simp[h2]
  simp[this]
theorem named_same {a a':TokD} {l l':List TokD} (h:ekT a=ekT a'):namedB (a::l)=namedB (a' :: l'):=by
 unfold namedB;show(!decide (a.text∈sixW) && a.kind == 1)=(!decide (a'.text∈sixW) && a'.kind == 1);rw[ekT_kind h,ekT_text h]
theorem TsB.pos {ts:List TokD} (h:TsB ts):0 < ts.length:=h.1.pos
section
variable {σ:Type} {R:σ→σ→Prop} (F:Nat→σ→List TokD→PR σ) (c:List TokD→Bool) (step:σ→List TokD→PR σ)
theorem loop_keeps (h0:∀ l ts,F 0 l ts=.ok l ts) (hs:∀ f l ts,F (f+1) l ts=if c ts=true then (step l ts).bind (F f) else .ok l ts) (htk:∀ l,Keeps (step l)):∀ f l,Keeps (F f l)
 | 0,l=>fun ts x r e hb=>by
  rw[h0]at e;cases e
  exact⟨hb,lrf⟩
 | f+1,l=>fun ts x r e hb=>by
  rw[hs]at e;split at e
  ·obtain⟨y,t,h1,h2⟩:=bind_inv e;obtain⟨b1,l1⟩:=htk l _ _ _ h1 hb;obtain⟨b2,l2⟩:=loop_keeps h0 hs htk f y _ _ _ h2 b1;exact⟨b2,by omega⟩
  ·cases e
   exact⟨hb,lrf⟩
theorem loop_fr (h0:∀ l ts,F 0 l ts=.ok l ts) (hs:∀ f l ts,F (f+1) l ts=if c ts=true then (step l ts).bind (F f) else .ok l ts)
  (hc:∀ a a' l l',ekT a=ekT a'→c (a::l)=c (a' :: l')) (hh:∀ l,Hard l→c l=false)
  (htk:∀ l,Takes (step l)) (hst:∀ l l',R l l'→Fr R (step l) (step l')):∀ (f f':Nat) (l l':σ) (A A' B D:List TokD) (x:σ) (r:List TokD),R l l'→SameL A A'→Hard B→Hard D→TsB (A++B)→A.length < f'→(A++B).length≤f →
   F f l (A++B)=.ok x r→B.length≤r.length→∃ k x',k≤A.length∧r=A.drop k++B∧F f' l' (A' ++ D)=.ok x' (A'.drop k++D)∧R x x'
 | 0,f',l,l',A,A',B,D,x,r,hR,hsm,hB,hD,hb,hf,hf0,h,hl=>absurd hb.pos (by omega)
 | f+1,0,l,l',A,A',B,D,x,r,hR,hsm,hB,hD,hb,hf,hf0,h,hl=>absurd hf (by omega)
 | f+1,f' + 1,l,l',A,A',B,D,x,r,hR,hsm,hB,hD,hb,hf,hf0,h,hl=>by
  rw[hs]at h;rw[hs];cases A with
  | nil=>
   have:=hsm.nil;subst this;rw[if_neg (by show ¬ c B=true;rw[hh B hB];decide)]at h;rw[if_neg (by show ¬ c D=true;rw[hh D hD];decide)];cases h
   exact⟨0,l',Nat.zero_le _,rfl,rfl,hR⟩
  | cons a l0=>
   obtain⟨a',l1,rfl,he,hs2⟩:=hsm.cons;have hcc:c (a' :: l1++D)=c (a::l0++B):=(hc _ _ _ _ he).symm;rw[hcc];by_cases hct:c (a::l0++B)=true
   ·rw[if_pos hct]at h ⊢;obtain⟨y,t,h1,h2⟩:=bind_inv h;obtain⟨b1,n1⟩:=htk l _ _ _ h1 hb;obtain⟨-,n2⟩:=loop_keeps F c step h0 hs (fun l=>(htk l).keeps) f y _ _ _ h2 b1;obtain⟨k,y',hk,rfl,h3,hy⟩:=(hst l l' hR).fr (a::l0) (a' :: l1) B D y t hsm hB hD hb h1 (by omega);have hdl:((a::l0).drop k++B).length=(a::l0).length - k+B.length:=(by simp);have hkp:1≤k:=(by rw[hdl]at n1;simp only[List.length_append]at n1;omega);obtain⟨k2,x',hk2,rfl,h4,hx⟩:=loop_fr h0 hs hc hh htk hst f f' y y' ((a::l0).drop k) ((a' :: l1).drop k) B D x r hy (hsm.drop k) hB hD b1 (by rw[List.length_drop];omega) (by omega) h2 hl;rw[List.length_drop]at hk2;refine⟨k+k2,x',by omega,by rw[List.drop_drop],?_,hx⟩;rw[h3];show F f' y' ((a' :: l1).drop k++D)=_;rw[h4,List.drop_drop]
   ·rw[if_neg hct]at h ⊢;cases h
    exact⟨0,l',Nat.zero_le _,rfl,rfl,hR⟩
theorem fr_loop (h0:∀ l ts,F 0 l ts=.ok l ts) (hs:∀ f l ts,F (f+1) l ts=if c ts=true then (step l ts).bind (F f) else .ok l ts)
  (hc:∀ a a' l l',ekT a=ekT a'→c (a::l)=c (a' :: l')) (hh:∀ l,Hard l→c l=false)
  (htk:∀ l,Takes (step l)) (hst:∀ l l',R l l'→Fr R (step l) (step l')) (l l':σ) (hR:R l l'):Fr R (fun ts=>F ts.length l ts) (fun ts=>F ts.length l' ts) where
 keep:=fun ts x r e hb=>loop_keeps F c step h0 hs (fun l=>(htk l).keeps) ts.length l ts x r e hb
 fr:=fun A A' B D x r hsm hB hD hb h hl=>loop_fr F c step h0 hs hc hh htk hst (A++B).length (A' ++ D).length l l' A A' B D x r hR hsm hB hD hb (by
  have:=List.length_pos_iff.2 hD.1;rw[List.length_append,← hsm.len];omega) lrf h hl
end
theorem fr_nams (l:List (List UInt8)):Fr Eq (fun ts=>namsF ts.length l ts) (fun ts=>namsF ts.length l ts):=
 fr_loop namsF namedB (fun l ts=>(nameR ts).bind fun nm ts=>.ok (l++[nm]) ts) (fun _ _=>rfl)
  (fun f l ts=>by
   show(if namedB ts=true then _ else _)=_;split
   ·rw[bind_assoc];rfl
   ·rfl)
  (fun _ _ _ _ h=>named_same h) (fun _ h=>hard_named h)
  (fun l=>Takes.bind name_takes fun _=>keeps_ok _)
  (fun l l' h=>by subst h;exact Fr.bind fr_name (fun _=>rfl) fun y y' h=>by subst h;exact Fr.pure rfl) l l rfl
inductive ItR {α:Type} (w:List UInt8) (p:List TokD→PR α):List TokD→List α→List TokD→List Nat→Prop where
 | stop {ts:List TokD} (h:seesB w ts=false):ItR w p ts [] ts []
 | go {ts t t2 r:List TokD} {m:α} {ms:List α} {ns:List Nat} (h:seesB w ts=true) (h1:p ts=.ok m t) (h2:commentsR t=.ok () t2) (h3:ItR w p t2 ms r ns):ItR w p ts (m::ms) r (ts.length::ns)
section
variable {α:Type} {w:List UInt8} {p:List TokD→PR α}
theorem ItR.facts {ts r:List TokD} {ms:List α} {ns:List Nat} (h:ItR w p ts ms r ns) (hp:Takes p):TsB ts→TsB r∧r.length≤ts.length∧(∀ n∈ns,n≤ts.length)∧seesB w r=false:=by
 induction h with
 | stop h=>exact fun hb=>⟨hb,lrf,by simp,h⟩
 | go h h1 h2 h3 ih=>
  intro hb;obtain⟨b1,l1⟩:=hp _ _ _ h1 hb;obtain⟨b2,l2⟩:=comm_keeps _ _ _ h2 b1;obtain⟨a1,a2,a3,a4⟩:=ih b2;refine⟨a1,by omega,fun n hn=>?_,a4⟩;rcases List.mem_cons.1 hn with rfl|hn
  ·exact lrf
  ·have:=a3 n hn;omega
end
theorem mssD_of {ts r:List TokD} {ms:List MsgD} {ns:List Nat} (h:ItR [66,79,95] messageR ts ms r ns):∀ (f:Nat) (l:List MsgD),ts.length≤f→TsB ts→l.length+ms.length≤512→mssD f l ts=.ok (l++ms) r:=by
 induction h with
 | @stop ts h=>
  intro f l hf hb hl;cases f with
  | zero=>exact absurd hb.pos (by omega)
  | succ f=>
   unfold mssD;rw[if_neg (by rw[h];decide),List.append_nil]
 | @go ts t t2 r m ms ns h h1 h2 h3 ih=>
  intro f l hf hb hl;cases f with
  | zero=>exact absurd hb.pos (by omega)
  | succ f=>
   obtain⟨b1,l1⟩:=message_takes _ _ _ h1 hb;obtain⟨b2,l2⟩:=comm_keeps _ _ _ h2 b1;unfold mssD;rw[if_pos h,if_neg (by simp at hl;omega),h1,PR.bind_ok,h2,PR.bind_ok,ih f (l++[m]) (by omega) b2 (by simp at hl ⊢;omega)];simp
theorem tbsD_run:∀ (f:Nat) (l:List TabD) (ts:List TokD) (x:List TabD) (r:List TokD),ts.length≤f→TsB ts→tbsD f l ts=.ok x r→∃ ms ns,x=l++ms∧ItR [86,65,76,95] tableR ts ms r ns
 | 0,l,ts,x,r,hf,hb,h=>absurd hb.pos (by omega)
 | f+1,l,ts,x,r,hf,hb,h=>by
  unfold tbsD at h;by_cases h0:seesB [86,65,76,95] ts=true
  ·rw[if_pos h0]at h;obtain⟨m,t,e1,h⟩:=bind_inv h;obtain⟨u,t2,e2,h⟩:=bind_inv h;obtain⟨b1,l1⟩:=table_takes _ _ _ e1 hb;obtain⟨b2,l2⟩:=comm_keeps _ _ _ e2 b1;obtain⟨ms,ns,rfl,i1⟩:=tbsD_run f (l++[m]) t2 x r (by omega) b2 h;exact⟨m::ms,_,by simp,.go h0 e1 e2 i1⟩
  ·rw[if_neg h0]at h;cases h
   exact⟨[],[],by simp,.stop (by simpa using h0)⟩
theorem tbsD_of {ts r:List TokD} {ms:List TabD} {ns:List Nat} (h:ItR [86,65,76,95] tableR ts ms r ns):∀ (f:Nat) (l:List TabD),ts.length≤f→TsB ts→tbsD f l ts=.ok (l++ms) r:=by
 induction h with
 | @stop ts h=>
  intro f l hf hb;cases f with
  | zero=>exact absurd hb.pos (by omega)
  | succ f=>
   unfold tbsD;rw[if_neg (by rw[h];decide),List.append_nil]
 | @go ts t t2 r m ms ns h h1 h2 h3 ih=>
  intro f l hf hb;cases f with
  | zero=>exact absurd hb.pos (by omega)
  | succ f=>
   obtain⟨b1,l1⟩:=table_takes _ _ _ h1 hb;obtain⟨b2,l2⟩:=comm_keeps _ _ _ h2 b1;unfold tbsD;rw[if_pos h,h1,PR.bind_ok,h2,PR.bind_ok,ih f (l++[m]) (by omega) b2];simp
def staP (ts:List TokD):PR (TokD×List (List UInt8)):=(mustR [66,85,95] ts).bind fun t ts=>(mustR [58] ts).bind fun _ ts=>(namsF ts.length [] ts).bind fun ns ts=>.ok (t,ns) ts
theorem fr_sta:Fr (fun x y=>x.2=y.2) staP staP:=by
 unfold staP;exact Fr.bind (fr_must _) (fun _=>rfl) fun _ _ _=>Fr.bind (fr_must _) (fun _=>rfl) fun _ _ _=>Fr.bind (fr_nams _) (fun _=>rfl) fun y y' h=>Fr.pure h
def verP (ts:List TokD):PR (TokD×List UInt8):=(mustR [86,69,82,83,73,79,78] ts).bind fun t ts=>(nextR 3 ts).bind fun x ts=>.ok (t,x.text) ts
theorem fr_ver:Fr (fun x y=>x.2=y.2) verP verP:=by
 unfold verP;exact Fr.bind (fr_must _) (fun _=>rfl) fun _ _ _=>Fr.bind (fr_next _) (fun _=>rfl) fun y y' h=>Fr.pure (ekT_text h).symm
theorem verX_eq (ts:List TokD):verX ts=if seesB [86,69,82,83,73,79,78] ts then (verP ts).bind fun v ts=>(commentsR ts).bind fun _ ts=>.ok (true,⟨v.1.line,v.1.col,v.2⟩) ts else .ok (false,⟨0,0,[]⟩) ts:=by
 unfold verX verP;split
 ·rename_i h
  rw[show mustR [86,69,82,83,73,79,78] ts=.ok (headT ts) ts.tail by unfold mustR;rw[if_pos h]];simp only[PR.bind_ok,bind_assoc]
 ·rfl
theorem dbR_eq (ts:List TokD):dbR ts=(commentsR ts).bind fun _ ts=>(verX ts).bind fun v ts=>(staP ts).bind fun s ts=>(commentsR ts).bind fun _ ts=>(mssD ts.length [] ts).bind fun ms ts=>
  (tbsD ts.length [] ts).bind fun tb ts=>endD ⟨v.1,v.2,⟨s.1.line,s.1.col,s.2⟩,ms,tb⟩ ts:=by
 unfold dbR staP;simp only[PR.bind_ok,bind_assoc]
def DbRun (T:List TokD) (d:DbD) (hs:List Nat):Prop:=∃ (T1 T2 t3 T4 T5 T6:List TokD) (n1 n2:List Nat) (s:TokD×List (List UInt8)),commentsR T=.ok () T1 ∧
 ((seesB [86,69,82,83,73,79,78] T1=true∧∃ v t,verP T1=.ok v t∧commentsR t=.ok () T2∧d.has=true∧d.ver=⟨v.1.line,v.1.col,v.2⟩)∨(seesB [86,69,82,83,73,79,78] T1=false∧T2=T1∧d.has=false∧d.ver=⟨0,0,[]⟩)) ∧
 staP T2=.ok s t3∧commentsR t3=.ok () T4∧ItR [66,79,95] messageR T4 d.msgs T5 n1∧d.msgs.length≤512∧ItR [86,65,76,95] tableR T5 d.tabs T6 n2∧(headT T6).kind=0∧d.sta=⟨s.1.line,s.1.col,s.2⟩ ∧
 hs=(if d.has then [T1.length] else [])++T2.length::(n1++n2++[T6.length])
theorem db_of {T:List TokD} {d:DbD} {hs:List Nat} (h:DbRun T d hs) (hb:TsB T):∃ r,dbR T=.ok d r:=by
 obtain⟨T1,T2,t3,T4,T5,T6,n1,n2,s,e1,hv,e3,e4,i1,i2,i3,hk,hs,-⟩:=h;obtain⟨b1,-⟩:=comm_keeps _ _ _ e1 hb;have hv2:verX T1=.ok (d.has,d.ver) T2∧TsB T2:=by
  rw[verX_eq];rcases hv with ⟨h0,v,t,g1,g2,g3,g4⟩|⟨h0,rfl,g3,g4⟩
  ·obtain⟨b2,-⟩:=fr_ver.keep _ _ _ g1 b1;obtain⟨b3,-⟩:=comm_keeps _ _ _ g2 b2;rw[if_pos h0,g1,PR.bind_ok,g2,PR.bind_ok,g3,g4];exact⟨rfl,b3⟩
  ·rw[if_neg (by rw[h0];decide),g3,g4];exact⟨rfl,b1⟩
 obtain⟨hv2,b2⟩:=hv2;obtain⟨b3,-⟩:=fr_sta.keep _ _ _ e3 b2;obtain⟨b4,-⟩:=comm_keeps _ _ _ e4 b3;obtain⟨b5,-⟩:=i1.facts message_takes b4;refine⟨T6,?_⟩;rw[dbR_eq,e1,PR.bind_ok,hv2,PR.bind_ok,e3,PR.bind_ok,e4,PR.bind_ok,mssD_of i1 _ [] lrf b4 (by simpa using i2),PR.bind_ok,tbsD_of i3 _ [] lrf b5,PR.bind_ok];unfold endD;rw[if_pos hk,← hs];rfl
end Go.Proofs.YtkblpaabknjckaaGreatDoor
