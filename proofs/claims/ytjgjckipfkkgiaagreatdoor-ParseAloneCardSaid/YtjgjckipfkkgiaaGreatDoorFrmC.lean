/-
  Plain: the skipping of comments, where something stands in place of what follows.
-/
import Derived.Test.YtjgjckipfkkgiaaGreatDoorFilM
import Derived.Test.YtjgjckipfkkgiaaGreatDoorSamA
import Derived.Test.YtjgjckipfkkgiaaGreatDoorBaseD
import Derived.Test.YtjgjckipfkkgiaaGreatDoorNodD
set_option maxHeartbeats 128000000
set_option linter.unusedVariables false
namespace Go.Proofs.YtjgjckipfkkgiaaGreatDoor
open Go.RowKit Go.Shelf
def ekT (t:TokD):Int×List UInt8:=(t.kind,t.text)
def SameL (A A':List TokD):Prop:=A.map ekT=A'.map ekT
theorem SameL.len {A A':List TokD} (h:SameL A A'):A.length=A'.length:=by have:=congrArg List.length h;simpa using this
theorem SameL.drop {A A':List TokD} (h:SameL A A') (k:Nat):SameL (A.drop k) (A'.drop k):=by
 unfold SameL at *;rw[List.map_drop,List.map_drop,h]
theorem SameL.cons {a:TokD} {l A':List TokD} (h:SameL (a::l) A'):∃ a' l',A' = a' :: l'∧ekT a=ekT a'∧SameL l l':=by
 cases A' with
 | nil=>simp[SameL]at h
 | cons a' l'=>
  simp only[SameL,List.map_cons,List.cons.injEq]at h;exact⟨a',l',rfl,h.1,h.2⟩
theorem SameL.nil {A':List TokD} (h:SameL [] A'):A' = []:=by
 cases A' with
 | nil=>rfl
 | cons a' l'=>simp[SameL]at h
theorem ekT_kind {a a':TokD} (h:ekT a=ekT a'):a'.kind=a.kind:=(congrArg Prod.fst h).symm
theorem ekT_text {a a':TokD} (h:ekT a=ekT a'):a'.text=a.text:=(congrArg Prod.snd h).symm
def hardW:List (List UInt8):=[[86,69,82,83,73,79,78],[66,85,95],[66,79,95],[86,65,76,95],[67,77,95]]
def Hard (l:List TokD):Prop:=l≠[]∧((headT l).kind=0∨(((headT l).kind=1∨(headT l).kind=4)∧(headT l).text∈hardW))
structure Fr {α:Type} (R:α→α→Prop) (p p':List TokD→PR α):Prop where
 keep:Keeps p
 fr:∀ (A A' B D:List TokD) (x:α) (r:List TokD),SameL A A'→Hard B→Hard D→TsB (A++B)→p (A++B)=.ok x r→B.length≤r.length →
  ∃ k x',k≤A.length∧r=A.drop k++B∧p' (A' ++ D)=.ok x' (A'.drop k++D)∧R x x'
theorem Fr.bind {α β:Type} {R1:α→α→Prop} {R:β→β→Prop} {p p':List TokD→PR α} {g g':α→List TokD→PR β} (hp:Fr R1 p p') (hR:∀ y,R1 y y) (hg:∀ y y',R1 y y'→Fr R (g y) (g' y')) :
  Fr R (fun ts=>(p ts).bind g) (fun ts=>(p' ts).bind g') where
 keep:=Keeps.bind hp.keep fun y=>(hg y y (hR y)).keep
 fr:=fun A A' B D x r hs hB hD hb h hl=>by
  obtain⟨y,t,h1,h2⟩:=bind_inv h;obtain⟨hbt,hlt⟩:=hp.keep _ _ _ h1 hb;obtain⟨-,hlr⟩:=(hg y y (hR y)).keep _ _ _ h2 hbt;obtain⟨k,y',hk,rfl,h3,hy⟩:=hp.fr A A' B D y t hs hB hD hb h1 (by omega);obtain⟨k2,x',hk2,rfl,h4,hx⟩:=(hg y y' hy).fr (A.drop k) (A'.drop k) B D x r (hs.drop k) hB hD hbt h2 hl;rw[List.length_drop]at hk2;refine⟨k+k2,x',by omega,by rw[List.drop_drop],?_,hx⟩;rw[h3];show g' y' (A'.drop k++D)=_;rw[h4,List.drop_drop]
theorem Fr.pure {α:Type} {R:α→α→Prop} {x x':α} (h:R x x'):Fr R (fun ts=>.ok x ts) (fun ts=>.ok x' ts) where
 keep:=keeps_ok x
 fr:=fun A A' B D y r hs hB hD hb h2 hl=>by
  cases h2
  exact⟨0,x',Nat.zero_le _,rfl,rfl,h⟩
theorem fr_one {α:Type} {R:α→α→Prop} {p:List TokD→PR α} (ht:Takes p) (hA:∀ (a a':TokD) (l l':List TokD) (x:α) (r:List TokD),ekT a=ekT a'→p (a::l)=.ok x r→r=l∧∃ x',p (a' :: l')=.ok x' l'∧R x x'):Fr R p p where
 keep:=ht.keeps
 fr:=fun A A' B D x r hs hB hD hb h hl=>by
  cases A with
  | nil=>
   have:=(ht _ _ _ h hb).2;simp at this;omega
  | cons a l=>
   obtain⟨a',l',rfl,he,hs2⟩:=hs.cons;obtain⟨h1,x',h2,h3⟩:=hA a a' (l++B) (l' ++ D) x r he h;exact⟨1,x',by simp,by simpa using h1,by simpa using h2,h3⟩
theorem fr_must (w:List UInt8):Fr (fun t t'=>ekT t=ekT t') (mustR w) (mustR w):=fr_one (must_takes w) fun a a' l l' x r he h=>by
 obtain⟨k,tx,L,C⟩:=a;obtain⟨k',tx',L',C'⟩:=a';obtain⟨rfl,rfl⟩:k=k'∧tx=tx':=⟨congrArg Prod.fst he,congrArg Prod.snd he⟩
 unfold mustR at *;split at h
 ·rename_i h2
  cases h
  exact⟨rfl,_,if_pos h2,rfl⟩
 ·cases h
theorem fr_next (k:Int):Fr (fun t t'=>ekT t=ekT t') (nextR k) (nextR k):=fr_one (next_takes k) fun a a' l l' x r he h=>by
 obtain⟨k,tx,L,C⟩:=a;obtain⟨k',tx',L',C'⟩:=a';obtain⟨rfl,rfl⟩:k=k'∧tx=tx':=⟨congrArg Prod.fst he,congrArg Prod.snd he⟩
 unfold nextR at *;split at h
 ·rename_i h2
  cases h
  exact⟨rfl,_,if_pos h2,rfl⟩
 ·cases h
theorem fr_name:Fr Eq nameR nameR:=fr_one name_takes fun a a' l l' x r he h=>by
 obtain⟨k,tx,L,C⟩:=a;obtain⟨k',tx',L',C'⟩:=a';obtain⟨rfl,rfl⟩:k=k'∧tx=tx':=⟨congrArg Prod.fst he,congrArg Prod.snd he⟩
 unfold nameR at *;split at h
 ·rename_i h2
  split at h
  ·rename_i h3
   cases h
   exact⟨rfl,_,(if_pos h2).trans (if_pos h3),rfl⟩
  ·cases h
 ·cases h
theorem fr_whole (b:Nat):Fr Eq (wholeR b) (wholeR b):=fr_one (whole_takes b) fun a a' l l' x r he h=>by
 obtain⟨k,tx,L,C⟩:=a;obtain⟨k',tx',L',C'⟩:=a';obtain⟨rfl,rfl⟩:k=k'∧tx=tx':=⟨congrArg Prod.fst he,congrArg Prod.snd he⟩
 unfold wholeR at *;split at h
 ·rename_i h2
  split at h
  ·rename_i h3
   cases h
   exact⟨rfl,_,(if_pos h2).trans (if_pos h3),rfl⟩
  ·cases h
 ·cases h
theorem fr_id:Fr Eq idR idR:=by
 have e:idR=fun ts=>(wholeR 4294967296 ts).bind fun n ts'=>.ok (n % 2147483648,decide (2147483648≤n)) ts':=by
  funext ts
  unfold idR PR.bind;cases wholeR 4294967296 ts<;>rfl
 rw[e];exact Fr.bind (fr_whole _) (fun _=>rfl) fun y y' h=>by subst h;exact Fr.pure rfl
theorem fr_frac:Fr Eq fracR fracR:=fr_one frac_takes fun a a' l l' x r he h=>by
 obtain⟨k,tx,L,C⟩:=a;obtain⟨k',tx',L',C'⟩:=a';obtain⟨rfl,rfl⟩:k=k'∧tx=tx':=⟨congrArg Prod.fst he,congrArg Prod.snd he⟩
 unfold fracR at *;split at h
 ·rename_i h2
  have e:∀ z:List TokD,fracR (⟨k,tx,L',C'⟩::z)=match fracP tx with
   | (some x,_)=>.ok x z
   | (none,m)=>wrongR m (⟨k,tx,L',C'⟩::z):=fun z=>if_pos h2
  have h':(match fracP tx with
   | (some x,_)=>PR.ok x l
   | (none,m)=>wrongR m (⟨k,tx,L,C⟩::l))=PR.ok x r:=h
  have g:∃ x',fracR (⟨k,tx,L',C'⟩::l')=.ok x' l'∧r=l∧x=x':=by
   rw[e];revert h';rcases fracP tx with ⟨_|y,m⟩
   ·intro h';cases h'
   ·intro h';cases h';exact⟨_,rfl,rfl,rfl⟩
  obtain⟨x',g1,g2,g3⟩:=g;exact⟨g2,x',g1,g3⟩
 ·cases h
theorem fr_order:Fr Eq orderR orderR:=fr_one order_takes fun a a' l l' x r he h=>by
 obtain⟨k,tx,L,C⟩:=a;obtain⟨k',tx',L',C'⟩:=a';obtain⟨rfl,rfl⟩:k=k'∧tx=tx':=⟨congrArg Prod.fst he,congrArg Prod.snd he⟩
 unfold orderR at *;split at h
 ·rename_i h2
  cases h
  exact⟨rfl,_,if_pos h2,rfl⟩
 ·cases h
theorem hard_sees {l:List TokD} (h:Hard l) {w:List UInt8} (hw:w ∉ hardW):seesB w l=false:=by
 unfold seesB;rcases h.2 with h|⟨h,h2⟩
 ·rw[h];simp
 ·have:¬ (headT l).text=w:=fun e=>hw (e ▸ h2)
  simp[this]
theorem hard_named {l:List TokD} (h:Hard l):namedB l=false:=by
 unfold namedB;rcases h.2 with h|⟨h,h2⟩
 ·rw[h];simp
 ·have:(headT l).text∈sixW:=by
   unfold hardW at h2;unfold sixW;simp only[List.mem_cons,List.not_mem_nil,or_false]at h2 ⊢;rcases h2 with h2|h2|h2|h2|h2<;>simp[h2]
  simp[this]
theorem sees_same {w:List UInt8} {a a':TokD} {l l':List TokD} (h:ekT a=ekT a'):seesB w (a::l)=seesB w (a' :: l'):=by
 unfold seesB;show(decide (a.text=w) && (a.kind == 1 || a.kind == 4))=(decide (a'.text=w) && (a'.kind == 1 || a'.kind == 4));rw[ekT_kind h,ekT_text h]
theorem named_same {a a':TokD} {l l':List TokD} (h:ekT a=ekT a'):namedB (a::l)=namedB (a' :: l'):=by
 unfold namedB;show(!decide (a.text∈sixW) && a.kind == 1)=(!decide (a'.text∈sixW) && a'.kind == 1);rw[ekT_kind h,ekT_text h]
theorem TsB.pos {ts:List TokD} (h:TsB ts):0 < ts.length:=h.1.pos
section
variable {σ:Type} {R:σ→σ→Prop} (F:Nat→σ→List TokD→PR σ) (c:List TokD→Bool) (step:σ→List TokD→PR σ)
theorem loop_keeps (h0:∀ l ts,F 0 l ts=.ok l ts) (hs:∀ f l ts,F (f+1) l ts=if c ts=true then (step l ts).bind (F f) else .ok l ts) (htk:∀ l,Keeps (step l)):∀ f l,Keeps (F f l)
 | 0,l=>fun ts x r e hb=>by
  rw[h0]at e;cases e
  exact⟨hb,lrf⟩
 | f+1,l=>fun ts x r e hb=>by
  rw[hs]at e;split at e
  ·obtain⟨y,t,h1,h2⟩:=bind_inv e;obtain⟨b1,l1⟩:=htk l _ _ _ h1 hb;obtain⟨b2,l2⟩:=loop_keeps h0 hs htk f y _ _ _ h2 b1;exact⟨b2,by omega⟩
  ·cases e
   exact⟨hb,lrf⟩
theorem loop_fr (h0:∀ l ts,F 0 l ts=.ok l ts) (hs:∀ f l ts,F (f+1) l ts=if c ts=true then (step l ts).bind (F f) else .ok l ts)
  (hc:∀ a a' l l',ekT a=ekT a'→c (a::l)=c (a' :: l')) (hh:∀ l,Hard l→c l=false)
  (htk:∀ l,Takes (step l)) (hst:∀ l l',R l l'→Fr R (step l) (step l')):∀ (f f':Nat) (l l':σ) (A A' B D:List TokD) (x:σ) (r:List TokD),R l l'→SameL A A'→Hard B→Hard D→TsB (A++B)→A.length < f'→(A++B).length≤f →
   F f l (A++B)=.ok x r→B.length≤r.length→∃ k x',k≤A.length∧r=A.drop k++B∧F f' l' (A' ++ D)=.ok x' (A'.drop k++D)∧R x x'
 | 0,f',l,l',A,A',B,D,x,r,hR,hsm,hB,hD,hb,hf,hf0,h,hl=>absurd hb.pos (by omega)
 | f+1,0,l,l',A,A',B,D,x,r,hR,hsm,hB,hD,hb,hf,hf0,h,hl=>absurd hf (by omega)
 | f+1,f' + 1,l,l',A,A',B,D,x,r,hR,hsm,hB,hD,hb,hf,hf0,h,hl=>by
  rw[hs]at h;rw[hs];cases A with
  | nil=>
   have:=hsm.nil;subst this;rw[if_neg (by show ¬ c B=true;rw[hh B hB];decide)]at h;rw[if_neg (by show ¬ c D=true;rw[hh D hD];decide)];cases h
   exact⟨0,l',Nat.zero_le _,rfl,rfl,hR⟩
  | cons a l0=>
   obtain⟨a',l1,rfl,he,hs2⟩:=hsm.cons;have hcc:c (a' :: l1++D)=c (a::l0++B):=(hc _ _ _ _ he).symm;rw[hcc];by_cases hct:c (a::l0++B)=true
   ·rw[if_pos hct]at h ⊢;obtain⟨y,t,h1,h2⟩:=bind_inv h;obtain⟨b1,n1⟩:=htk l _ _ _ h1 hb;obtain⟨-,n2⟩:=loop_keeps F c step h0 hs (fun l=>(htk l).keeps) f y _ _ _ h2 b1;obtain⟨k,y',hk,rfl,h3,hy⟩:=(hst l l' hR).fr (a::l0) (a' :: l1) B D y t hsm hB hD hb h1 (by omega);have hdl:((a::l0).drop k++B).length=(a::l0).length - k+B.length:=(by simp);have hkp:1≤k:=(by rw[hdl]at n1;simp only[List.length_append]at n1;omega);obtain⟨k2,x',hk2,rfl,h4,hx⟩:=loop_fr h0 hs hc hh htk hst f f' y y' ((a::l0).drop k) ((a' :: l1).drop k) B D x r hy (hsm.drop k) hB hD b1 (by rw[List.length_drop];omega) (by omega) h2 hl;rw[List.length_drop]at hk2;refine⟨k+k2,x',by omega,by rw[List.drop_drop],?_,hx⟩;rw[h3];show F f' y' ((a' :: l1).drop k++D)=_;rw[h4,List.drop_drop]
   ·rw[if_neg hct]at h ⊢;cases h
    exact⟨0,l',Nat.zero_le _,rfl,rfl,hR⟩
theorem fr_loop (h0:∀ l ts,F 0 l ts=.ok l ts) (hs:∀ f l ts,F (f+1) l ts=if c ts=true then (step l ts).bind (F f) else .ok l ts)
  (hc:∀ a a' l l',ekT a=ekT a'→c (a::l)=c (a' :: l')) (hh:∀ l,Hard l→c l=false)
  (htk:∀ l,Takes (step l)) (hst:∀ l l',R l l'→Fr R (step l) (step l')) (l l':σ) (hR:R l l'):Fr R (fun ts=>F ts.length l ts) (fun ts=>F ts.length l' ts) where
 keep:=fun ts x r e hb=>loop_keeps F c step h0 hs (fun l=>(htk l).keeps) ts.length l ts x r e hb
 fr:=fun A A' B D x r hsm hB hD hb h hl=>loop_fr F c step h0 hs hc hh htk hst (A++B).length (A' ++ D).length l l' A A' B D x r hR hsm hB hD hb (by
  have:=List.length_pos_iff.2 hD.1;rw[List.length_append,← hsm.len];omega) lrf h hl
end
theorem fr_to (l:List (List UInt8)):Fr Eq (fun ts=>toF ts.length l ts) (fun ts=>toF ts.length l ts):=
 fr_loop toF (seesB [44]) (fun l ts=>(mustR [44] ts).bind fun _ ts=>(nameR ts).bind fun nm ts=>.ok (l++[nm]) ts) (fun _ _=>rfl)
  (fun f l ts=>by
   show(if seesB [44] ts=true then _ else _)=_;split
   ·rename_i h
    rw[show mustR [44] ts=.ok (headT ts) ts.tail by unfold mustR;rw[if_pos h]];show(nameR ts.tail).bind _=((nameR ts.tail).bind _).bind _;rw[bind_assoc];rfl
   ·rfl)
  (fun _ _ _ _ h=>sees_same h) (fun _ h=>hard_sees h (by decide))
  (fun l=>Takes.bind (must_takes _) fun _=>Keeps.bind name_takes.keeps fun _=>keeps_ok _)
  (fun l l' h=>by subst h;exact Fr.bind (fr_must _) (fun _=>rfl) fun _ _ _=>Fr.bind fr_name (fun _=>rfl) fun y y' h=>by subst h;exact Fr.pure rfl) l l rfl
theorem fr_nams (l:List (List UInt8)):Fr Eq (fun ts=>namsF ts.length l ts) (fun ts=>namsF ts.length l ts):=
 fr_loop namsF namedB (fun l ts=>(nameR ts).bind fun nm ts=>.ok (l++[nm]) ts) (fun _ _=>rfl)
  (fun f l ts=>by
   show(if namedB ts=true then _ else _)=_;split
   ·rw[bind_assoc];rfl
   ·rfl)
  (fun _ _ _ _ h=>named_same h) (fun _ h=>hard_named h)
  (fun l=>Takes.bind name_takes fun _=>keeps_ok _)
  (fun l l' h=>by subst h;exact Fr.bind fr_name (fun _=>rfl) fun y y' h=>by subst h;exact Fr.pure rfl) l l rfl
def roleQ (ts:List TokD):PR (Int×Nat):=(roleR ts).bind fun rb ts=>(mustR [58] ts).bind fun _ ts=>.ok rb ts
theorem roleQ_takes:Takes roleQ:=fun ts x r e hb=>by
 obtain⟨y,t,h1,h2⟩:=bind_inv e;obtain⟨b1,n1⟩:=role_keeps _ _ _ h1 hb;obtain⟨b2,n2⟩:=Takes.bind (must_takes [58]) (fun _=>keeps_ok y) _ _ _ h2 b1;exact⟨b2,by omega⟩
theorem role_cases (k:Int) (tx:List UInt8):(k≠1∧∀ L C z,roleR (⟨k,tx,L,C⟩::z)=.ok (0,0) (⟨k,tx,L,C⟩::z))∨(∃ v,∀ L C z,roleR (⟨k,tx,L,C⟩::z)=.ok v z)∨(∀ L C z,∃ a b c,roleR (⟨k,tx,L,C⟩::z)=.bad a b c):=by
 have e:∀ L C z,roleR (⟨k,tx,L,C⟩::z)=if k=1 then (if tx=[77] then .ok (1,0) z else if Lib.hasPrefix tx [109]=true∧(numP (Lib.trimPrefix tx [109])).2=true then .ok (2,(numP (Lib.trimPrefix tx [109])).1) z else formR (⟨k,tx,L,C⟩::z)) else .ok (0,0) (⟨k,tx,L,C⟩::z):=fun L C z=>rfl
 by_cases h:k=1
 ·by_cases h1:tx=[77]
  ·exact .inr (.inl ⟨_,fun L C z=>by rw[e,if_pos h,if_pos h1]⟩)
  ·by_cases h2:Lib.hasPrefix tx [109]=true∧(numP (Lib.trimPrefix tx [109])).2=true
   ·exact .inr (.inl ⟨_,fun L C z=>by rw[e,if_pos h,if_neg h1,if_pos h2]⟩)
   ·exact .inr (.inr fun L C z=>⟨_,_,_,by rw[e,if_pos h,if_neg h1,if_neg h2];rfl⟩)
 ·exact .inl ⟨h,fun L C z=>by rw[e,if_neg h]⟩
theorem fr_roleQ:Fr Eq roleQ roleQ where
 keep:=roleQ_takes.keeps
 fr:=fun A A' B D x r hs hB hD hb h hl=>by
  cases A with
  | nil=>
   have:=(roleQ_takes _ _ _ h hb).2;simp at this;omega
  | cons a l=>
   obtain⟨a',l',rfl,he,hs2⟩:=hs.cons;obtain⟨k,tx,L,C⟩:=a;obtain⟨k',tx',L',C'⟩:=a';obtain⟨rfl,rfl⟩:k=k'∧tx=tx':=⟨congrArg Prod.fst he,congrArg Prod.snd he⟩
   unfold roleQ at h ⊢;rcases role_cases k tx with ⟨-,h1⟩|⟨v,h1⟩|h1
   ·rw[List.cons_append,h1]at h;rw[List.cons_append,h1];exact(Fr.bind (fr_must [58]) (fun _=>rfl) fun _ _ _=>Fr.pure (R:=Eq) (x:=((0:Int),(0:Nat))) rfl).fr (⟨k,tx,L,C⟩::l) (⟨k,tx,L',C'⟩::l') B D x r hs hB hD hb h hl
   ·rw[List.cons_append,h1]at h;rw[List.cons_append,h1];have hbt:TsB (l++B):=by
     have:=(role_keeps _ _ _ (h1 L C (l++B)) hb).1;exact this
    obtain⟨k2,x',e1,e2,e3,e4⟩:=(Fr.bind (fr_must [58]) (fun _=>rfl) fun _ _ _=>Fr.pure (R:=Eq) (x:=v) rfl).fr l l' B D x r hs2 hB hD hbt h hl;exact⟨k2+1,x',by simp only[List.length_cons];omega,by rw[List.drop_succ_cons];exact e2,by rw[List.drop_succ_cons];exact e3,e4⟩
   ·obtain⟨p,q,s,e⟩:=h1 L C (l++B);rw[List.cons_append,e]at h;cases h
def ZS (x y:SigX):Prop:=zSig x=zSig y
theorem ZS.refl (x:SigX):ZS x x:=rfl
theorem sigR_eq:sigR=fun ts=>(mustR [83,71,95] ts).bind fun t ts=>(nameR ts).bind fun nm ts=>(roleQ ts).bind fun rb ts=>
 (wholeR 2147483648 ts).bind fun st ts=>(mustR [124] ts).bind fun _ ts=>(wholeR 2147483648 ts).bind fun sz ts=>(orderR ts).bind fun o ts=>
 (mustR [40] ts).bind fun _ ts=>(fracR ts).bind fun sc ts=>(mustR [44] ts).bind fun _ ts=>(fracR ts).bind fun of ts=>(mustR [41] ts).bind fun _ ts=>
 (mustR [91] ts).bind fun _ ts=>(fracR ts).bind fun mi ts=>(mustR [124] ts).bind fun _ ts=>(fracR ts).bind fun ma ts=>(mustR [93] ts).bind fun _ ts=>
 (nextR 3 ts).bind fun u ts=>(nameR ts).bind fun n1 ts=>(toF ts.length [n1] ts).bind fun rcv ts=>
 .ok ⟨⟨t.line,t.col,nm,rb.1,rb.2,st,sz,o[1]? == some 48,o[2]? == some 45,sc.1,sc.2,of.1,of.2,mi.1,mi.2,ma.1,ma.2,u.text⟩,rcv⟩ ts:=by
 funext ts
 unfold sigR roleQ;simp only[bind_assoc,PR.bind_ok]
theorem fr_sig:Fr ZS sigR sigR:=by
 rw[sigR_eq];refine Fr.bind (fr_must _) (fun _=>rfl) fun t t' ht=>Fr.bind fr_name (fun _=>rfl) fun nm nm' hnm=>Fr.bind fr_roleQ (fun _=>rfl) fun rb rb' hrb=>?_
 subst hnm;subst hrb;refine Fr.bind (fr_whole _) (fun _=>rfl) fun st st' hst=>Fr.bind (fr_must _) (fun _=>rfl) fun _ _ _=>Fr.bind (fr_whole _) (fun _=>rfl) fun sz sz' hsz=>Fr.bind fr_order (fun _=>rfl) fun o o' ho=>?_
 subst hst;subst hsz;subst ho;refine Fr.bind (fr_must _) (fun _=>rfl) fun _ _ _=>Fr.bind fr_frac (fun _=>rfl) fun sc sc' hsc=>Fr.bind (fr_must _) (fun _=>rfl) fun _ _ _=>Fr.bind fr_frac (fun _=>rfl) fun of of' hof=>Fr.bind (fr_must _) (fun _=>rfl) fun _ _ _=>?_
 subst hsc;subst hof;refine Fr.bind (fr_must _) (fun _=>rfl) fun _ _ _=>Fr.bind fr_frac (fun _=>rfl) fun mi mi' hmi=>Fr.bind (fr_must _) (fun _=>rfl) fun _ _ _=>Fr.bind fr_frac (fun _=>rfl) fun ma ma' hma=>Fr.bind (fr_must _) (fun _=>rfl) fun _ _ _=>?_
 subst hmi;subst hma;refine Fr.bind (fr_next _) (fun _=>rfl) fun u u' hu=>Fr.bind fr_name (fun _=>rfl) fun n1 n1' hn1=>?_
 subst hn1;refine Fr.bind (fr_to _) (fun _=>rfl) fun rcv rcv' hrcv=>?_
 subst hrcv;refine Fr.pure ?_;unfold ZS zSig;rw[ekT_text hu]
theorem fr_sgs:Fr (fun l l'=>l.map zSig=l'.map zSig) (fun ts=>sgsF ts.length [] ts) (fun ts=>sgsF ts.length [] ts):=
 fr_loop sgsF (seesB [83,71,95]) (fun l ts=>if l.length=64 then wrongR 5 ts else (sigR ts).bind fun x ts=>.ok (l++[x]) ts) (fun _ _=>rfl)
  (fun f l ts=>by
   show(if seesB [83,71,95] ts=true then _ else _)=_;split
   ·split
    ·rfl
    ·rw[bind_assoc];rfl
   ·rfl)
  (fun _ _ _ _ h=>sees_same h) (fun _ h=>hard_sees h (by decide))
  (fun l=>by
   by_cases h:l.length=64
   ·simp only[h,if_true];exact fun ts x r e hb=>by cases e
   ·simp only[h,if_false];exact Takes.bind sig_takes fun _=>keeps_ok _)
  (fun l l' h=>by
   have hl:l.length=l'.length:=(by have:=congrArg List.length h;simpa using this);by_cases h0:l.length=64
   ·have h1:l'.length=64:=(by omega);simp only[h0,h1,if_true];exact⟨fun ts x r e hb=>(by cases e),fun A A' B D x r _ _ _ _ e _=>(by cases e)⟩
   ·have h1:¬ l'.length=64:=(by omega);simp only[h0,h1,if_false];exact Fr.bind fr_sig ZS.refl fun y y' hy=>Fr.pure (by simp only[List.map_append,List.map_cons,List.map_nil];rw[h,hy])) [] [] rfl
def ZM (x y:MsgD):Prop:=zMsg x=zMsg y
def ZT (x y:TabD):Prop:=zTab x=zTab y
theorem fr_message:Fr ZM messageR messageR:=by
 unfold messageR;refine Fr.bind (fr_must _) (fun _=>rfl) fun t t' ht=>Fr.bind fr_id (fun _=>rfl) fun i i' hi=>Fr.bind fr_name (fun _=>rfl) fun nm nm' hnm=>Fr.bind (fr_must _) (fun _=>rfl) fun _ _ _=>?_
 subst hi;subst hnm;refine Fr.bind (fr_whole _) (fun _=>rfl) fun sz sz' hsz=>Fr.bind fr_name (fun _=>rfl) fun sd sd' hsd=>?_
 subst hsz;subst hsd;refine Fr.bind fr_sgs (fun _=>rfl) fun l l' hl=>Fr.pure ?_
 unfold ZM zMsg;rw[hl]
def rowStep (l:List (Int×List UInt8)) (ts:List TokD):PR (List (Int×List UInt8)):=match intP (headT ts).text with
 | none=>wrongR 8 ts
 | some v=>if l.length=256 then wrongR 5 ts else (nextR 2 ts).bind fun _ ts=>(nextR 3 ts).bind fun x ts=>.ok (l++[(v,x.text)]) ts
theorem rowStep_takes (l:List (Int×List UInt8)):Takes (rowStep l):=fun ts x r e hb=>by
 unfold rowStep at e;split at e
 ·cases e
 ·split at e
  ·cases e
  ·exact Takes.bind (next_takes 2) (fun _=>Keeps.bind (next_takes 3).keeps fun _=>keeps_ok _) _ _ _ e hb
theorem fr_rowStep (l:List (Int×List UInt8)):Fr Eq (rowStep l) (rowStep l) where
 keep:=(rowStep_takes l).keeps
 fr:=fun A A' B D x r hs hB hD hb h hl=>by
  cases A with
  | nil=>
   have:=(rowStep_takes l _ _ _ h hb).2;simp at this;omega
  | cons a l0=>
   obtain⟨a',l',rfl,he,hs2⟩:=hs.cons;have e1:∀ z:List TokD,rowStep l (a::z)=match intP a.text with
    | none=>wrongR 8 (a::z)
    | some v=>if l.length=256 then wrongR 5 (a::z) else (nextR 2 (a::z)).bind fun _ ts=>(nextR 3 ts).bind fun x ts=>.ok (l++[(v,x.text)]) ts:=fun z=>rfl
   have e2:∀ z:List TokD,rowStep l (a' :: z)=match intP a'.text with
    | none=>wrongR 8 (a' :: z)
    | some v=>if l.length=256 then wrongR 5 (a' :: z) else (nextR 2 (a' :: z)).bind fun _ ts=>(nextR 3 ts).bind fun x ts=>.ok (l++[(v,x.text)]) ts:=fun z=>rfl
   rw[List.cons_append,e1]at h;rw[List.cons_append,e2,ekT_text he];cases hv:intP a.text with
   | none=>rw[hv]at h;cases h
   | some v=>
    rw[hv]at h;by_cases h0:l.length=256
    ·simp only[h0,if_true]at h;cases h
    ·simp only[h0,if_false]at h ⊢;exact(Fr.bind (fr_next 2) (fun _=>rfl) fun _ _ _=>Fr.bind (fr_next 3) (fun _=>rfl) fun y y' hy=>Fr.pure (R:=Eq) (by rw[ekT_text hy])).fr (a::l0) (a' :: l') B D x r hs hB hD hb h hl
theorem fr_rows:Fr Eq (fun ts=>rowsF ts.length [] ts) (fun ts=>rowsF ts.length [] ts):=
 fr_loop rowsF (fun ts=>decide ((headT ts).kind=2)) rowStep (fun _ _=>rfl)
  (fun f l ts=>by
   unfold rowsF rowStep;by_cases h:(headT ts).kind=2
   ·simp only[h,if_true,decide_true];cases intP (headT ts).text with
    | none=>rfl
    | some v=>
     by_cases h0:l.length=256
     ·simp only[h0,if_true];rfl
     ·simp only[h0,if_false];rw[show nextR 2 ts=.ok (headT ts) ts.tail by unfold nextR;rw[if_pos ⟨h,by decide⟩]];simp only[PR.bind_ok,bind_assoc]
   ·simp only[h,if_false,decide_false];rfl)
  (fun a a' _ _ h=>by
   show decide (a.kind=2)=decide (a'.kind=2);rw[ekT_kind h])
  (fun l h=>by
   rcases h.2 with h|⟨h|h,-⟩<;>simp[h])
  rowStep_takes (fun l l' h=>by subst h;exact fr_rowStep l) [] [] rfl
theorem fr_table:Fr ZT tableR tableR:=by
 unfold tableR;refine Fr.bind (fr_must _) (fun _=>rfl) fun t t' ht=>Fr.bind fr_id (fun _=>rfl) fun i i' hi=>Fr.bind fr_name (fun _=>rfl) fun nm nm' hnm=>Fr.bind fr_rows (fun _=>rfl) fun l l' hl=>Fr.bind (fr_must _) (fun _=>rfl) fun _ _ _=>?_
 subst hi;subst hnm;subst hl;exact Fr.pure rfl
theorem Fr.post {α:Type} {R:α→α→Prop} {p p':List TokD→PR α} (h:Fr R p p') {T T':List TokD} {x:α} {r:List TokD} (hs:SameL T T') (hb:TsB T) (e:p T=.ok x r) :
  ∃ k x',k≤T.length∧r=T.drop k∧p' T' = .ok x' (T'.drop k)∧R x x':=by
 obtain⟨hbr,-⟩:=h.keep _ _ _ e hb;obtain⟨l,z,rfl,hz⟩:=hb.1;have hl:T' = T'.take l.length++T'.drop l.length:=(List.take_append_drop _ _).symm;have hlen:=hs.len;have hs1:SameL l (T'.take l.length):=by
  have h1:(l++[z]).map ekT=T'.map ekT:=hs;show l.map ekT=(T'.take l.length).map ekT;rw[List.map_take,← h1,List.map_append,List.take_left' (by simp)]
 have hs2:SameL [z] (T'.drop l.length):=by
  have h1:(l++[z]).map ekT=T'.map ekT:=hs;show [z].map ekT=(T'.drop l.length).map ekT;rw[List.map_drop,← h1,List.map_append,List.drop_left' (by simp)]
 obtain⟨z',l',hz',he,hn⟩:=hs2.cons;have hh1:Hard [z]:=⟨by simp,.inl hz⟩
 have hh2:Hard (T'.drop l.length):=by
  rw[hz'];exact⟨by simp,.inl (by show z'.kind=0;rw[ekT_kind he];exact hz)⟩
 obtain⟨k,x',hk,hr,h2,hx⟩:=h.fr l (T'.take l.length) [z] (T'.drop l.length) x r hs1 hh1 hh2 hb e (by have:=hbr.pos;simp only[List.length_singleton];omega);have hl2:(T'.take l.length).length=l.length:=hs1.len.symm;refine⟨k,x',by simp;omega,by rw[List.drop_append_of_le_length hk];exact hr,?_,hx⟩;rw[← hl]at h2;rw[h2]
 congr 1
 conv=>rhs;rw[hl]
 rw[List.drop_append_of_le_length (by omega)]
theorem skip_len:∀ (f:Nat) (ts:List TokD) (r:List TokD),skipF f ts=.ok () r→r.length≤ts.length
 | 0,ts,r,h=>by cases h;exact lrf
 | f+1,ts,r,h=>by
  unfold skipF at h;split at h
  ·cases h;exact lrf
  ·cases hn:nextR (headT ts).kind ts with
   | bad a b c=>rw[hn]at h;cases h
   | ok x t=>
    rw[hn]at h;have h1:=skip_len f t r h;have h2:t.length≤ts.length:=by
     unfold nextR formR wrongR at hn;split at hn
     ·cases hn;simp
     ·cases hn
    omega
theorem skip_pre:∀ (f f':Nat) (A A' B D r:List TokD),SameL A A'→skipF f (A++B)=.ok () r→B.length < r.length→(A++B).length≤f→A.length≤f'→∃ k,k < A.length∧r=A.drop k++B∧skipF f' (A' ++ D)=.ok () (A'.drop k++D)
 | f,f',[],A',B,D,r,hs,h,hl,hf,hf'=>by
  have:=skip_len _ _ _ h;rw[List.nil_append]at this;omega
 | 0,f',a::l,A',B,D,r,hs,h,hl,hf,hf'=>by simp at hf
 | f+1,0,a::l,A',B,D,r,hs,h,hl,hf,hf'=>by simp at hf'
 | f+1,f' + 1,a::l,A',B,D,r,hs,h,hl,hf,hf'=>by
  obtain⟨a',l',rfl,he,hs2⟩:=hs.cons;rw[List.cons_append]at h ⊢;unfold skipF at h ⊢;rw[← sees_same (l:=l++B) (l':=l' ++ D) he];by_cases h0:seesB [59] (a::(l++B))=true
  ·rw[if_pos h0]at h;rw[if_pos h0];cases h
   exact⟨0,by simp,rfl,rfl⟩
  ·rw[if_neg h0]at h;rw[if_neg h0];by_cases hk:a.kind=0
   ·rw[show nextR (headT (a::(l++B))).kind (a::(l++B))=formR (a::(l++B))from if_neg (fun h=>h.2 hk)]at h;cases h
   ·rw[show nextR (headT (a::(l++B))).kind (a::(l++B))=.ok a (l++B)from if_pos ⟨rfl,hk⟩]at h;rw[show nextR (headT (a' :: (l' ++ D))).kind (a' :: (l' ++ D))=.ok a' (l' ++ D)from if_pos ⟨rfl,by show a'.kind≠0;rw[ekT_kind he];exact hk⟩];obtain⟨k,h1,h2,h3⟩:=skip_pre f f' l l' B D r hs2 h hl (by simp only[List.cons_append,List.length_cons]at hf;omega) (by simp only[List.length_cons]at hf';omega);exact⟨k+1,by simp only[List.length_cons];omega,by rw[List.drop_succ_cons];exact h2,by rw[List.drop_succ_cons];exact h3⟩
theorem must_semi {t t2:List TokD} {x:TokD} (h:mustR [59] t=.ok x t2):∃ c,t=c::t2∧seesB [59] t=true:=by
 unfold mustR formR wrongR at h;split at h
 ·rename_i h1
  cases h
  cases t with
  | nil=>simp[seesB,headT]at h1
  | cons c l=>exact⟨c,rfl,h1⟩
 ·cases h
theorem comm_len:∀ (f:Nat) (ts r:List TokD),commF f ts=.ok () r→r.length≤ts.length
 | 0,ts,r,h=>by cases h;exact lrf
 | f+1,ts,r,h=>by
  rw[commF_succ]at h;split at h
  ·cases hs:skipF ts.tail.length ts.tail with
   | bad a b c=>rw[hs]at h;cases h
   | ok u t=>
    rw[hs]at h;unfold afterS at h;dsimp only at h;cases hm:mustR [59] t with
    | bad a b c=>rw[hm]at h;cases h
    | ok x t2=>
     rw[hm]at h;obtain⟨c,rfl,-⟩:=must_semi hm;have h1:=skip_len _ _ _ hs;have h2:=comm_len f t2 r h;have h3:ts.tail.length≤ts.length:=(by simp);simp only[List.length_cons]at h1;omega
  ·cases h;exact lrf
theorem comm_pre (B D E:List TokD) (hB:seesB [67,77,95] B=false) (hD:∀ f,D.length≤f→commF f D=.ok () E):∀ (f f':Nat) (A A' r:List TokD),SameL A A'→commF f (A++B)=.ok () r→B.length≤r.length→(A++B).length≤f→(A' ++ D).length≤f' →
  ∃ k,k≤A.length∧r=A.drop k++B∧commF f' (A' ++ D)=.ok () (if k=A.length then E else A'.drop k++D)
 | f,f',[],A',r,hs,h,hl,hf,hf'=>by
  have:=hs.nil;subst this;have hr:r=B:=by
   cases f with
   | zero=>cases h;rfl
   | succ f=>
    rw[commF_succ,if_neg (by rw[List.nil_append,hB];decide)]at h;cases h
    rfl
  exact⟨0,lrf,hr,hD f' hf'⟩
 | 0,f',a::l,A',r,hs,h,hl,hf,hf'=>by simp at hf
 | f+1,0,a::l,A',r,hs,h,hl,hf,hf'=>by
  have:=hs.len;simp only[List.length_append,List.length_cons]at hf' this;omega
 | f+1,f' + 1,a::l,A',r,hs,h,hl,hf,hf'=>by
  obtain⟨a',l',rfl,he,hs2⟩:=hs.cons;rw[List.cons_append]at h ⊢;rw[commF_succ]at h ⊢;rw[← sees_same (l:=l++B) (l':=l' ++ D) he];by_cases h0:seesB [67,77,95] (a::(l++B))=true
  ·rw[if_pos h0]at h;rw[if_pos h0];rw[List.tail_cons]at h ⊢;cases hsk:skipF (l++B).length (l++B)with
   | bad p q s=>rw[hsk]at h;cases h
   | ok u t=>
    rw[hsk]at h;unfold afterS at h;dsimp only at h;cases hm:mustR [59] t with
    | bad p q s=>rw[hm]at h;cases h
    | ok x t2=>
     rw[hm]at h;dsimp only at h;obtain⟨c,rfl,hse⟩:=must_semi hm;have n1:=comm_len f t2 r h;have n2:=hs2.len;obtain⟨k,hk,ht,h3⟩:=skip_pre _ (l' ++ D).length l l' B D _ hs2 hsk (by simp only[List.length_cons];omega) lrf (by simp only[List.length_append];omega);rw[h3];unfold afterS;dsimp only;have hd:l.drop k=c::(l.drop (k+1))∧t2=l.drop (k+1)++B:=by
      rw[List.drop_eq_getElem_cons hk,List.cons_append]at ht;injection ht with e1 e2
      exact⟨by rw[List.drop_eq_getElem_cons hk,e1],e2⟩
     have hsd:=hs2.drop k;rw[hd.1]at hsd;obtain⟨c',l2,hl2,hce,hsd2⟩:=hsd.cons;have hl3:l2=l'.drop (k+1):=by
      have:=congrArg List.tail hl2;rw[List.tail_drop]at this;exact this.symm
     subst hl3;have hm2:mustR [59] (l'.drop k++D)=.ok c' (l'.drop (k+1)++D):=by
      rw[hl2];unfold mustR;rw[if_pos (by rw[List.cons_append,← sees_same (l:=t2) hce];exact hse)];rfl
     rw[hm2];dsimp only;rw[hd.2]at h;obtain⟨k2,g1,g2,g3⟩:=comm_pre B D E hB hD f f' (l.drop (k+1)) (l'.drop (k+1)) r hsd2 h hl (by
      simp only[List.length_cons,List.length_append,List.length_drop]at hf ⊢;omega) (by simp only[List.length_cons,List.length_append,List.length_drop]at hf' ⊢;omega)
     rw[List.length_drop]at g1 g3;refine⟨k+k2+2,by simp only[List.length_cons];omega,?_,?_⟩
     ·rw[g2,List.drop_drop,show k+k2+2=(k+1+k2)+1 by omega,List.drop_succ_cons]
     ·rw[g3,List.drop_drop];by_cases hk2:k2=l.length - (k+1)
      ·rw[if_pos hk2,if_pos (by simp only[List.length_cons];omega)]
      ·rw[if_neg hk2,if_neg (by simp only[List.length_cons];omega),show k+k2+2=(k+1+k2)+1 by omega,List.drop_succ_cons]
  ·rw[if_neg h0]at h;rw[if_neg h0];cases h
   exact⟨0,Nat.zero_le _,rfl,by rw[if_neg (by simp)];rfl⟩
end Go.Proofs.YtjgjckipfkkgiaaGreatDoor
