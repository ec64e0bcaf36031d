/-
  Plain: what the reading of a source comes to, for the program and for the reference.
-/
import Derived.Test.YtlacjhjckkablaaGreatDoorRedL
import Derived.Test.YtlacjhjckkablaaGreatDoorSamA
import Derived.Test.YtlacjhjckkablaaGreatDoorBaseD
import Derived.Test.YtlacjhjckkablaaGreatDoorPrsS
import Derived.Test.YtlacjhjckkablaaGreatDoorRlxH
set_option maxHeartbeats 128000000
set_option linter.unusedVariables false
namespace Go.Proofs.YtlacjhjckkablaaGreatDoor
open Go.Proofs.Tryz
open Go.RowKit Go.Shelf
theorem tok_kind {c:UInt8} {u:List UInt8} {k:Int} {t:List UInt8} {n:Nat} (h:tokR (c::u)=.good k t n) :
  (k=1→∃ c r,t=c::r∧ltU c.toNat=true)∧(k=4→∃ c r,t=c::r∧ltU c.toNat=false)∧(k=2→∃ x,readL t=some x):=by
 refine⟨fun h1=>?_,fun h4=>?_,fun h2=>by subst h2;exact tok_num (List.cons_ne_nil _ _) h⟩
 ·subst h1;rw[tok_bytes]at h;split at h
  ·rename_i hl
   cases h
   have hc:ldC c=true:=(by unfold ldC;rw[hl];rfl);refine⟨c,u.take (u.takeWhile ldC).length,?_,hl⟩;unfold nameN;rw[List.takeWhile_cons,if_pos hc,List.length_cons,List.take_succ_cons]
  ·split at h
   ·split at h<;>cases h
   ·split at h
    ·unfold textR at h;split at h
     ·cases h
     ·split at h
      ·split at h<;>cases h
      ·cases h
    ·split at h
     ·cases h
     ·split at h<;>cases h
 ·subst h4;rw[tok_bytes]at h;split at h
  ·cases h
  ·rename_i hl
   have hl:ltU c.toNat=false:=(by simpa using hl);split at h
   ·split at h<;>cases h
   ·split at h
    ·unfold textR at h;split at h
     ·cases h
     ·split at h
      ·split at h<;>cases h
      ·cases h
    ·split at h
     ·cases h
      exact⟨c,[],rfl,hl⟩
     ·split at h
      ·cases h
       exact⟨c,u.take 2,rfl,hl⟩
      ·cases h
theorem Chain.kinds {s:List UInt8} {n:Nat} {l:List TokD} (h:Chain s n l):∀ t∈l,KindOK t:=by
 induction h with
 | fin n q hn hb=>
  intro t ht;rw[List.mem_singleton]at ht;subst ht;exact⟨fun h=>(by cases h),fun h=>(by cases h),fun h=>(by cases h)⟩
 | tok n i m t r hn hi hb ht hm hr ih=>
  intro x hx;rcases List.mem_cons.1 hx with rfl|hx
  ·rw[List.drop_eq_getElem_cons hi]at ht;exact tok_kind ht
  ·exact ih x hx
theorem scanL_tsw {s:List UInt8} {T:List TokD} (h:scanL s=.good T):TsW T:=⟨scanL_toks h,(scanL_chain h).kinds⟩
theorem ref6_any (s:List UInt8) (hs:s.length≤9223372036854775807) (wo:World):Calls prog 6 #[.string ⟨s.toArray⟩] wo (RetDb wo (scanL s)):=file06_any s hs (fun T h=>scanL_tsw h) wo
def Pos (ts:List TokD):Prop:=TsB ts∧∀ t∈ts,0 < t.line
def GoodBad (no L:Int):Prop:=1≤no∧no≤26∧0 < L
def SafeA {α:Type}:PR α→Prop
 | .ok _ ts=>Pos ts
 | .bad no L C=>GoodBad no L
def Safe {α:Type} (p:List TokD→PR α):Prop:=∀ ts,Pos ts→SafeA (p ts)
theorem Pos.head {ts:List TokD} (h:Pos ts):0 < (headT ts).line:=by
 have hp:=h.1.1.pos;cases ts with
 | nil=>simp at hp
 | cons t r=>exact h.2 t (by simp)
theorem safeA_bind {α β:Type} {r:PR α} {f:α→List TokD→PR β} (hr:SafeA r) (hf:∀ y,Safe (f y)):SafeA (r.bind f):=by
 cases r with
 | ok x ts=>exact hf x ts hr
 | bad a b c=>exact hr
theorem Safe.bind {α β:Type} {p:List TokD→PR α} {f:α→List TokD→PR β} (hp:Safe p) (hf:∀ y,Safe (f y)):Safe (fun ts=>(p ts).bind f):=fun ts h=>safeA_bind (hp ts h) hf
theorem safe_ok {α:Type} (x:α):Safe (fun ts=>PR.ok x ts):=fun ts h=>h
theorem safe_wrong {α:Type} {n:Int} (h1:1≤n) (h2:n≤26):Safe (fun ts=>(wrongR n ts:PR α)):=fun ts h=>⟨h1,h2,h.head⟩
theorem safe_form {α:Type}:Safe (fun ts=>(formR ts:PR α)):=fun ts h=>by
 have hn:formN ts=2∨formN ts=4:=by
  unfold formN;split
  ·exact .inl rfl
  ·exact .inr rfl
 show GoodBad (formN ts) (headT ts).line;rcases hn with e|e
 ·rw[e];exact⟨by decide,by decide,h.head⟩
 ·rw[e];exact⟨by decide,by decide,h.head⟩
theorem Pos.tail {ts:List TokD} (h:Pos ts) (hk:(headT ts).kind≠0):Pos ts.tail:=⟨h.1.tail hk,fun t ht=>h.2 t (List.mem_of_mem_tail ht)⟩
theorem safe_must (t:List UInt8):Safe (mustR t):=fun ts h=>by
 unfold mustR;by_cases hs:seesB t ts=true
 ·rw[if_pos hs];exact h.tail (sees_kind hs)
 ·rw[if_neg hs];exact safe_form ts h
theorem safe_next (k:Int):Safe (nextR k):=fun ts h=>by
 unfold nextR;by_cases hk:(headT ts).kind=k∧k≠0
 ·rw[if_pos hk];exact h.tail (by rw[hk.1];exact hk.2)
 ·rw[if_neg hk];exact safe_form ts h
theorem safe_name:Safe nameR:=fun ts h=>by
 unfold nameR;by_cases hs:namedB ts=true
 ·rw[if_pos hs];split
  ·exact h.tail (named_kind2 hs)
  ·exact safe_wrong (by decide) (by decide) ts h
 ·rw[if_neg hs];exact safe_form ts h
theorem safe_whole (b:Nat):Safe (wholeR b):=fun ts h=>by
 unfold wholeR;by_cases hk:(headT ts).kind=2
 ·rw[if_pos hk];split
  ·exact h.tail (by rw[hk];decide)
  ·exact safe_wrong (by decide) (by decide) ts h
 ·rw[if_neg hk];exact safe_form ts h
theorem safe_id:Safe idR:=fun ts h=>by
 have:=safe_whole 4294967296 ts h;unfold idR;cases hw:wholeR 4294967296 ts with
 | ok n t=>rw[hw]at this;exact this
 | bad a b c=>rw[hw]at this;exact this
theorem safe_frac:Safe fracR:=fun ts h=>by
 unfold fracR;by_cases hk:(headT ts).kind=2
 ·rw[if_pos hk];split
  ·exact h.tail (by rw[hk];decide)
  ·rename_i m hm
   rcases fracP_cases (headT ts).text with ⟨n,d,-,he⟩|⟨m',-,he⟩
   ·rw[he]at hm;cases hm
   ·rw[he]at hm;cases hm
    split
    ·exact safe_wrong (by decide) (by decide) ts h
    ·exact safe_wrong (by decide) (by decide) ts h
 ·rw[if_neg hk];exact safe_form ts h
theorem safe_role:Safe roleR:=fun ts h=>by
 unfold roleR;by_cases hk:(headT ts).kind=1
 ·rw[if_pos hk];split
  ·exact h.tail (by rw[hk];decide)
  ·split
   ·exact h.tail (by rw[hk];decide)
   ·exact safe_form ts h
 ·rw[if_neg hk];exact h
theorem safe_order:Safe orderR:=fun ts h=>by
 unfold orderR;by_cases hk:(headT ts).kind=4∧(headT ts).text.length=3
 ·rw[if_pos hk];exact h.tail (by rw[hk.1];decide)
 ·rw[if_neg hk];exact safe_form ts h
theorem safe_skip:∀ (f:Nat),Safe (skipF f)
 | 0=>safe_ok ()
 | f+1=>fun ts h=>by
  unfold skipF;split
  ·exact h
  ·have hn:=safe_next (headT ts).kind ts h;cases hx:nextR (headT ts).kind ts with
   | ok x t=>rw[hx]at hn;exact safe_skip f t hn
   | bad a b c=>rw[hx]at hn;exact hn
theorem safe_comm:∀ (f:Nat),Safe (commF f)
 | 0=>safe_ok ()
 | f+1=>fun ts h=>by
  rw[commF_succ];by_cases hs:seesB [67,77,95] ts=true
  ·rw[if_pos hs];have hk:=safe_skip ts.tail.length ts.tail (h.tail (sees_kind hs));unfold afterS;cases hx:skipF ts.tail.length ts.tail with
   | bad a b c=>rw[hx]at hk;exact hk
   | ok x t=>
    rw[hx]at hk;have hm:=safe_must [59] t hk;simp only;cases hy:mustR [59] t with
    | bad a b c=>rw[hy]at hm;exact hm
    | ok y t2=>rw[hy]at hm;exact safe_comm f t2 hm
  ·rw[if_neg hs];exact h
theorem safe_comments:Safe commentsR:=fun ts h=>safe_comm _ ts h
theorem safe_to:∀ (f:Nat) (l:List (List UInt8)),Safe (toF f l)
 | 0,l=>safe_ok l
 | f+1,l=>fun ts h=>by
  unfold toF;by_cases hs:seesB [44] ts=true
  ·rw[if_pos hs];exact safeA_bind (safe_name _ (h.tail (sees_kind hs))) fun y=>safe_to f _
  ·rw[if_neg hs];exact h
theorem safe_sig:Safe sigR:=
 (safe_must _).bind fun _=>safe_name.bind fun _=>safe_role.bind fun _=>(safe_must _).bind fun _=>(safe_whole _).bind fun _=>(safe_must _).bind fun _=>(safe_whole _).bind fun _=>safe_order.bind fun _=>
 (safe_must _).bind fun _=>safe_frac.bind fun _=>(safe_must _).bind fun _=>safe_frac.bind fun _=>(safe_must _).bind fun _=>(safe_must _).bind fun _=>safe_frac.bind fun _=>(safe_must _).bind fun _=>safe_frac.bind fun _=>(safe_must _).bind fun _=>
 (safe_next _).bind fun _=>safe_name.bind fun n1=>Safe.bind (fun ts h=>safe_to ts.length [n1] ts h) fun _=>safe_ok _
theorem safe_sgs:∀ (f:Nat) (l:List SigX),Safe (sgsF f l)
 | 0,l=>safe_ok l
 | f+1,l=>fun ts h=>by
  unfold sgsF;split
  ·split
   ·exact safe_wrong (by decide) (by decide) ts h
   ·exact safeA_bind (safe_sig ts h) fun y=>safe_sgs f _
  ·exact h
theorem safe_message:Safe messageR:=
 (safe_must _).bind fun _=>safe_id.bind fun _=>safe_name.bind fun _=>(safe_must _).bind fun _=>(safe_whole _).bind fun _=>safe_name.bind fun _=>Safe.bind (fun ts h=>safe_sgs ts.length [] ts h) fun _=>safe_ok _
theorem safe_rows:∀ (f:Nat) (l:List (Int×List UInt8)),Safe (rowsF f l)
 | 0,l=>safe_ok l
 | f+1,l=>fun ts h=>by
  unfold rowsF;by_cases hk:(headT ts).kind=2
  ·rw[if_pos hk];split
   ·exact safe_wrong (by decide) (by decide) ts h
   ·split
    ·exact safe_wrong (by decide) (by decide) ts h
    ·exact safeA_bind (safe_next _ _ (h.tail (by rw[hk];decide))) fun y=>safe_rows f _
  ·rw[if_neg hk];exact h
theorem safe_table:Safe tableR:=
 (safe_must _).bind fun _=>safe_id.bind fun _=>safe_name.bind fun _=>Safe.bind (fun ts h=>safe_rows ts.length [] ts h) fun _=>(safe_must _).bind fun _=>safe_ok _
theorem safe_nams:∀ (f:Nat) (l:List (List UInt8)),Safe (namsF f l)
 | 0,l=>safe_ok l
 | f+1,l=>fun ts h=>by
  unfold namsF;split
  ·exact safeA_bind (safe_name ts h) fun y=>safe_nams f _
  ·exact h
theorem safe_verX:Safe verX:=fun ts h=>by
 unfold verX;by_cases hs:seesB [86,69,82,83,73,79,78] ts=true
 ·rw[if_pos hs];exact safeA_bind (safe_next _ _ (h.tail (sees_kind hs))) fun y=>safe_comments.bind fun _=>safe_ok _
 ·rw[if_neg hs];exact h
theorem safe_mssD:∀ (f:Nat) (l:List MsgD),Safe (mssD f l)
 | 0,l=>safe_ok l
 | f+1,l=>fun ts h=>by
  unfold mssD;split
  ·split
   ·exact safe_wrong (by decide) (by decide) ts h
   ·exact safeA_bind (safe_message ts h) fun y=>safe_comments.bind fun _=>safe_mssD f _
  ·exact h
theorem safe_tbsD:∀ (f:Nat) (l:List TabD),Safe (tbsD f l)
 | 0,l=>safe_ok l
 | f+1,l=>fun ts h=>by
  unfold tbsD;split
  ·exact safeA_bind (safe_table ts h) fun y=>safe_comments.bind fun _=>safe_tbsD f _
  ·exact h
theorem safe_endD (d:DbD):Safe (endD d):=fun ts h=>by
 unfold endD;split
 ·exact h
 ·exact safe_form ts h
theorem safe_db:Safe dbR:=
 safe_comments.bind fun _=>safe_verX.bind fun _=>(safe_must _).bind fun _=>(safe_must _).bind fun _=>Safe.bind (fun ts h=>safe_nams ts.length [] ts h) fun _=>safe_comments.bind fun _=>
 Safe.bind (fun ts h=>safe_mssD ts.length [] ts h) fun _=>Safe.bind (fun ts h=>safe_tbsD ts.length [] ts h) fun _=>safe_endD _
theorem Chain.lines {s:List UInt8} {n:Nat} {l:List TokD} (h:Chain s n l):∀ t∈l,0 < t.line:=by
 induction h with
 | fin n q hn hb=>
  intro t ht;rw[List.mem_singleton]at ht;subst ht;exact hb.pos (by decide)
 | tok n i m t r hn hi hb ht hm hr ih=>
  intro x hx;rcases List.mem_cons.1 hx with rfl|hx
  ·exact hb.pos (by decide)
  ·exact ih x hx
theorem scanL_pos {s:List UInt8} {T:List TokD} (h:scanL s=.good T):Pos T:=⟨scanL_toks h,(scanL_chain h).lines⟩
theorem db_bad {s:List UInt8} {T:List TokD} {no L C:Int} (h:scanL s=.good T) (hb:dbR T=.bad no L C):1≤no∧no≤26∧0 < L:=by
 have:=safe_db T (scanL_pos h);rw[hb]at this;exact this
def Gives {α:Type} (p:List TokD→PR α) (P:α→Prop):Prop:=∀ ts x ts',p ts=.ok x ts'→TsB ts→P x
theorem Gives.bind {α β:Type} {p:List TokD→PR α} {f:α→List TokD→PR β} {Q:α→Prop} {P:β→Prop} (hp:Keeps p) (hq:Gives p Q) (hf:∀ y,Q y→Gives (f y) P):Gives (fun ts=>(p ts).bind f) P:=fun ts x ts' e hb=>by
 obtain⟨y,t,h1,h2⟩:=bind_inv e;exact hf y (hq _ _ _ h1 hb) _ _ _ h2 (hp _ _ _ h1 hb).1
theorem Gives.skip {α β:Type} {p:List TokD→PR α} {f:α→List TokD→PR β} {P:β→Prop} (hp:Keeps p) (hf:∀ y,Gives (f y) P):Gives (fun ts=>(p ts).bind f) P:=
 Gives.bind (Q:=fun _=>True) hp (fun _ _ _ _ _=>trivial) fun y _=>hf y
theorem gives_ok {α:Type} {P:α→Prop} (x:α) (h:P x):Gives (fun ts=>PR.ok x ts) P:=fun ts y ts' e hb=>by
 cases e
 exact h
theorem to_gives (nm:List UInt8):Gives (fun ts=>toF ts.length [nm] ts) (fun l=>l.length≤4000001):=fun ts x ts' e hb=>by
 have h1:=(to_ok _ e hb).2.2;have h2:=hb.2.2;simp only[List.length_cons,List.length_nil]at h1;omega
theorem sig_gives:Gives sigR (fun x=>x.rs.length≤4000001):=
 Gives.skip (must_takes _).keeps fun _=>Gives.skip name_takes.keeps fun _=>Gives.skip role_keeps fun _=>Gives.skip (must_takes _).keeps fun _=>
 Gives.skip (whole_takes _).keeps fun _=>Gives.skip (must_takes _).keeps fun _=>Gives.skip (whole_takes _).keeps fun _=>Gives.skip order_takes.keeps fun _=>
 Gives.skip (must_takes _).keeps fun _=>Gives.skip frac_takes.keeps fun _=>Gives.skip (must_takes _).keeps fun _=>Gives.skip frac_takes.keeps fun _=>Gives.skip (must_takes _).keeps fun _=>
 Gives.skip (must_takes _).keeps fun _=>Gives.skip frac_takes.keeps fun _=>Gives.skip (must_takes _).keeps fun _=>Gives.skip frac_takes.keeps fun _=>Gives.skip (must_takes _).keeps fun _=>
 Gives.skip (next_takes _).keeps fun _=>Gives.skip name_takes.keeps fun _=>Gives.bind (to_keeps _) (to_gives _) fun _ h=>gives_ok _ h
def MsgBd (m:MsgD):Prop:=m.sigs.length≤64∧∀ x∈m.sigs,x.rs.length≤4000001
theorem sgs_gives:∀ (f:Nat) {l r:List SigX} {ts ts':List TokD},sgsF f l ts=.ok r ts'→(∀ x∈l,x.rs.length≤4000001)→TsB ts→∀ x∈r,x.rs.length≤4000001
 | 0,l,r,ts,ts',h,hl,hb=>by
  cases h
  exact hl
 | f+1,l,r,ts,ts',h,hl,hb=>by
  unfold sgsF wrongR at h;split at h
  ·split at h
   ·cases h
   ·obtain⟨y,t,h1,h2⟩:=bind_inv h;refine sgs_gives f h2 (fun x hx=>?_) (sig_takes _ _ _ h1 hb).1;rcases List.mem_append.1 hx with hx|hx
    ·exact hl x hx
    ·rw[List.mem_singleton]at hx;subst hx;exact sig_gives _ _ _ h1 hb
  ·cases h
   exact hl
theorem message_gives:Gives messageR MsgBd:=
 Gives.skip (must_takes _).keeps fun _=>Gives.skip id_takes.keeps fun _=>Gives.skip name_takes.keeps fun _=>Gives.skip (must_takes _).keeps fun _=>
 Gives.skip (whole_takes _).keeps fun _=>Gives.skip name_takes.keeps fun _=>Gives.bind (Q:=fun l:List SigX=>l.length≤64∧∀ x∈l,x.rs.length≤4000001) sgs_keeps (fun ts x ts' e hb=>⟨(sgs_ok _ e (by simp) hb).2.2,sgs_gives _ e (fun x hx=>by cases hx) hb⟩) fun _ h=>gives_ok _ h
theorem mssD_gives:∀ (f:Nat) {l r:List MsgD} {ts ts':List TokD},mssD f l ts=.ok r ts'→l.length≤512→(∀ m∈l,MsgBd m)→TsB ts→(TsB ts'∧ts'.length≤ts.length)∧r.length≤512∧∀ m∈r,MsgBd m
 | 0,l,r,ts,ts',h,hn,hl,hb=>by
  cases h
  exact⟨⟨hb,lrf⟩,hn,hl⟩
 | f+1,l,r,ts,ts',h,hn,hl,hb=>by
  unfold mssD wrongR at h;split at h
  ·split at h
   ·cases h
   ·rename_i hne
    obtain⟨y,t,h1,h2⟩:=bind_inv h;obtain⟨b1,l1⟩:=message_takes _ _ _ h1 hb;obtain⟨z,t2,h3,h4⟩:=bind_inv h2;obtain⟨b2,l2⟩:=comm_keeps _ _ _ h3 b1;obtain⟨⟨b3,l3⟩,l4,l5⟩:=mssD_gives f h4 (by rw[List.length_append,List.length_cons,List.length_nil];omega) (fun x hx=>by
     rcases List.mem_append.1 hx with hx|hx
     ·exact hl x hx
     ·rw[List.mem_singleton]at hx;subst hx;exact message_gives _ _ _ h1 hb) b2
    exact⟨⟨b3,by omega⟩,l4,l5⟩
  ·cases h
   exact⟨⟨hb,lrf⟩,hn,hl⟩
theorem table_four {ts ts':List TokD} {x:TabD} (h:tableR ts=.ok x ts') (hb:TsB ts):(TsB ts'∧ts'.length+4≤ts.length)∧x.rows.length≤256:=by
 unfold tableR at h;obtain⟨y1,t1,h1,h⟩:=bind_inv h;obtain⟨b1,l1⟩:=must_takes _ _ _ _ h1 hb;obtain⟨y2,t2,h2,h⟩:=bind_inv h;obtain⟨b2,l2⟩:=id_takes _ _ _ h2 b1;obtain⟨y3,t3,h3,h⟩:=bind_inv h;obtain⟨b3,l3⟩:=name_takes _ _ _ h3 b2;obtain⟨y4,t4,h4,h⟩:=bind_inv h;obtain⟨b4,l4,l4'⟩:=rows_ok _ h4 (by simp) b3;obtain⟨y5,t5,h5,h⟩:=bind_inv h;obtain⟨b5,l5⟩:=must_takes _ _ _ _ h5 b4;cases h
 exact⟨⟨b5,by omega⟩,l4'⟩
theorem tbsD_gives:∀ (f:Nat) {l r:List TabD} {ts ts':List TokD},tbsD f l ts=.ok r ts'→(∀ t∈l,t.rows.length≤256)→TsB ts→TsB ts'∧r.length*4+ts'.length≤l.length*4+ts.length∧∀ t∈r,t.rows.length≤256
 | 0,l,r,ts,ts',h,hl,hb=>by
  cases h
  exact⟨hb,lrf,hl⟩
 | f+1,l,r,ts,ts',h,hl,hb=>by
  unfold tbsD at h;split at h
  ·obtain⟨y,t,h1,h2⟩:=bind_inv h;obtain⟨⟨b1,l1⟩,r1⟩:=table_four h1 hb;obtain⟨z,t2,h3,h4⟩:=bind_inv h2;obtain⟨b2,l2⟩:=comm_keeps _ _ _ h3 b1;obtain⟨b3,l3,l4⟩:=tbsD_gives f h4 (fun x hx=>by
    rcases List.mem_append.1 hx with hx|hx
    ·exact hl x hx
    ·rw[List.mem_singleton]at hx;subst hx;exact r1) b2
   rw[List.length_append,List.length_cons,List.length_nil]at l3;exact⟨b3,by omega,l4⟩
  ·cases h
   exact⟨hb,lrf,hl⟩
theorem verX_keeps:Keeps verX:=fun ts x ts' e hb=>by
 unfold verX at e;split at e
 ·rename_i hs
  have ht:=tail_lt hb;obtain⟨y,t,h1,h2⟩:=bind_inv e;obtain⟨b1,l1⟩:=next_takes _ _ _ _ h1 (hb.tail (sees_kind hs));obtain⟨z,t2,h3,h4⟩:=bind_inv h2;obtain⟨b2,l2⟩:=comm_keeps _ _ _ h3 b1;cases h4
  exact⟨b2,by omega⟩
 ·cases e
  exact⟨hb,lrf⟩
structure DbBd (d:DbD) (n:Nat):Prop where
 nam:d.sta.names.length≤4000001
 mln:d.msgs.length≤512
 msg:∀ m∈d.msgs,MsgBd m
 tln:d.tabs.length*4≤n
 tab:∀ t∈d.tabs,t.rows.length≤256
theorem db_bd {ts ts':List TokD} {d:DbD} (h:dbR ts=.ok d ts') (hb:TsB ts):DbBd d ts.length:=by
 unfold dbR at h;obtain⟨y1,t1,h1,h⟩:=bind_inv h;obtain⟨b1,l1⟩:=comm_keeps _ _ _ h1 hb;obtain⟨y2,t2,h2,h⟩:=bind_inv h;obtain⟨b2,l2⟩:=verX_keeps _ _ _ h2 b1;obtain⟨y3,t3,h3,h⟩:=bind_inv h;obtain⟨b3,l3⟩:=must_takes _ _ _ _ h3 b2;obtain⟨y4,t4,h4,h⟩:=bind_inv h;obtain⟨b4,l4⟩:=must_takes _ _ _ _ h4 b3;obtain⟨y5,t5,h5,h⟩:=bind_inv h;obtain⟨b5,l5,l5'⟩:=nams_ok _ h5 b4;obtain⟨y6,t6,h6,h⟩:=bind_inv h;obtain⟨b6,l6⟩:=comm_keeps _ _ _ h6 b5;obtain⟨y7,t7,h7,h⟩:=bind_inv h;obtain⟨⟨b7,l7⟩,m1,m2⟩:=mssD_gives _ h7 (by simp) (fun x hx=>by cases hx) b6;obtain⟨y8,t8,h8,h⟩:=bind_inv h;obtain⟨b8,l8,m3⟩:=tbsD_gives _ h8 (fun x hx=>by cases hx) b7;unfold endD formR wrongR at h;split at h
 ·cases h
  have:=hb.2.2;simp only[List.length_nil]at l5' l8;exact⟨by show y5.length≤_;omega,m1,m2,by show y8.length*4≤_;omega,m3⟩
 ·cases h
theorem pscanF_err:∀ (f:Nat) (s:List UInt8) (sk:Nat) (p:Int×Int) (acc:List TokD) (v:Value),0 < p.1→scanF f s sk p acc=.bad v→∃ no L C,ErrAt v no L C:=by
 intro f
 induction f with
 | zero=>intro s sk p acc v hp h;simp[scanF]at h
 | succ f ih=>
  intro s sk p acc v hp h;unfold scanF at h;have hn:∀ r,0 < (nextP p r).1:=fun r=>by unfold nextP;split<;>simp only<;>omega
  split at h
  ·cases h
  ·rename_i hne
   split at h
   ·have hok:=tokR_ok s hne;cases ht:tokR s with
    | bad e=>
     rw[ht]at h hok;injection h with h
     obtain⟨h1,h2⟩:=hok;exact⟨(e:Nat),p.1,p.2,.inr ⟨h.symm,hp⟩,by omega,by omega⟩
    | good k t n=>
     rw[ht]at h;exact ih _ _ _ _ _ (hn _) h
   ·exact ih _ _ _ _ _ (hn _) h
theorem pscanL_err {s:List UInt8} {v:Value} (h:scanL s=.bad v):∃ no L C,ErrAt v no L C:=by
 rcases scan_plain_cases s with ⟨_,h2,_⟩|⟨u,h1,h2,_⟩|⟨_,h2,_⟩
 ·rw[h]at h2;injection h2 with h2
  exact⟨5,0,0,.inl ⟨h2,rfl,rfl⟩,by decide,by decide⟩
 ·rw[h]at h2;injection h2 with h2
  exact⟨6,_,_,.inr ⟨h2,h1⟩,by decide,by decide⟩
 ·rw[h]at h2;exact pscanF_err _ _ _ _ _ _ (by decide) h2.symm
theorem perrAt_det {v:Value} {n L C n' L' C':Int} (h:ErrAt v n L C) (h2:ErrAt v n' L' C'):n=n'∧L=L'∧C=C':=by
 rcases h.1 with ⟨h3,rfl,rfl⟩|⟨h3,_⟩<;>rcases h2.1 with ⟨h4,rfl,rfl⟩|⟨h4,_⟩
 ·rw[h3]at h4;unfold errV at h4;simp at h4;exact⟨h4,rfl,rfl⟩
 ·rw[h3]at h4;unfold errV faultV at h4;simp at h4
 ·rw[h3]at h4;unfold errV faultV at h4;simp at h4
 ·rw[h3]at h4;unfold faultV at h4;simp at h4;exact h4
theorem file_cases (s:List UInt8) :
  (∃ v no L C,ErrAt v no L C∧fileR s=.bad v∧∀ wo e w',RetDb wo (scanL s) e w'→e=.returned (.tuple #[.agg zeroDb,.int .i64 no,.agg #[.int .i64 L,.int .i64 C]])∧Below wo.heap.size wo w') ∨
  (∃ d,DbBd d 1048577∧fileR s=.good (nodsD d)∧∀ wo e w',RetDb wo (scanL s) e w'→∃ D:Array Value,e=.returned (.tuple #[.agg D,.int .i64 0,.agg #[.int .i64 0,.int .i64 0]])∧fdDbN wo.heap.size w' d D.toList∧Below wo.heap.size wo w'):=by
 cases hw:scanL s with
 | bad v=>
  obtain⟨no,L,C,he⟩:=pscanL_err hw;refine .inl ⟨v,no,L,C,he,by unfold fileR;rw[hw],fun wo e w' h=>?_⟩;unfold RetDb at h;obtain⟨no',L',C',h1,h2,h3⟩:=h;obtain⟨rfl,rfl,rfl⟩:=perrAt_det he h3;exact⟨h1,h2⟩
 | good T=>
  obtain⟨a1,a2,-,-⟩:=scanL_bd hw;have hf:fileR s=match sourceR T with
   | .ok l _=>.good l
   | .bad no l c=>.bad (faultV no l c):=by unfold fileR;rw[hw];rfl
  rw[source_db]at hf;cases hd:dbR T with
  | bad no L C=>
   obtain⟨h1,h2,h3⟩:=db_bad hw hd;rw[hd]at hf;refine .inl ⟨_,no,L,C,⟨.inr ⟨rfl,h3⟩,h1,h2⟩,hf,fun wo e w' h=>?_⟩;unfold RetDb at h;simp only[hd]at h;exact h
  | ok d t=>
   rw[hd]at hf;have hb:=db_bd hd (scanL_toks hw);refine .inr ⟨d,⟨hb.nam,hb.mln,hb.msg,by have:=hb.tln;omega,hb.tab⟩,hf,fun wo e w' h=>?_⟩;unfold RetDb at h;simp only[hd]at h;exact h
end Go.Proofs.YtlacjhjckkablaaGreatDoor
