/-
  The walk of ParseFiles where the source is taken.
-/
import Derived.Test.YtfflljgnpfldfaaGreatDoorRedL
import Derived.Test.YtfflljgnpfldfaaGreatDoorPtsM
import Derived.Test.YtfflljgnpfldfaaGreatDoorBokD
set_option linter.all false
set_option maxHeartbeats 128000000
set_option maxRecDepth 100000
namespace Go.Proofs.YtfflljgnpfldfaaGreatDoor
open Go.Proofs.Tryz
open Go.RowKit Go.Shelf
theorem amh {c:UInt8} {u:List UInt8} {k:Int} {t:List UInt8} {n:Nat} (h:gG (c::u)=.good k t n) :
  (k=1→∃ c r,t=c::r∧js c.toNat=true)∧(k=4→∃ c r,t=c::r∧js c.toNat=false)∧(k=2→∃ x,nd t=some x):=by
 refine⟨fun h1=>?_,fun h4=>?_,fun h2=>by subst h2;exact ami (List.cons_ne_nil _ _) h⟩
 ·subst h1;rw[ME]at h;split at h
  ·rename_i hl
   cases h
   have hc:jt c=true:=(by unfold jt;rw[hl];rfl);refine⟨c,u.take (u.takeWhile jt).length,?_,hl⟩;unfold l9;rw[sY,if_pos hc,dz,vM]
  ·split at h
   ·exact Bb
   ·split at h
    ·unfold rz at h;split at h
     ·cases h
     ·split at h
      ·exact Bb
      ·cases h
    ·split at h
     ·cases h
     ·exact Bb
 ·subst h4;rw[ME]at h;split at h
  ·cases h
  ·rename_i hl
   have hl:js c.toNat=false:=(by simpa using hl);split at h
   ·exact Bb
   ·split at h
    ·unfold rz at h;split at h
     ·cases h
     ·split at h
      ·exact Bb
      ·cases h
    ·split at h
     ·cases h
      exact⟨c,[],rfl,hl⟩
     ·split at h
      ·cases h
       exact⟨c,u.take 2,rfl,hl⟩
      ·cases h
theorem sw.kinds {s:List UInt8} {n:Nat} {l:List aw} (h:sw s n l):∀ t∈l,aet t:=by
 induction h with
 | fin n q hn hb=>
  intro t ht;rw[oY]at ht;subst ht;exact⟨fun h=>xq,fun h=>xq,fun h=>xq⟩
 | tok n i m t r hn hi hb ht hm hr ih=>
  intro x hx;rcases nL.1 hx with rfl|hx
  ·rw[jq hi]at ht;exact amh ht
  ·exact ih x hx
theorem amj {s:List UInt8} {T:List aw} (h:gB s=.good T):mD T:=⟨Mu h,(V3 h).kinds⟩
theorem aeu (s:List UInt8) (hs:s.length≤9223372036854775807) (wo:World):Calls prog 22 #[.string ⟨s.toArray⟩] wo (yi wo (gB s)):=amk s hs (fun T h=>amj h) wo
def Pos (ts:List aw):Prop:=di ts∧∀ t∈ts,0 < t.line
def adX (no L:Int):Prop:=1≤no∧no≤26∧0 < L
def V1 {α:Type}:PR α→Prop
 | .ok _ ts=>Pos ts
 | .bad no L C=>adX no L
def Safe {α:Type} (p:List aw→PR α):Prop:=∀ ts,Pos ts→V1 (p ts)
theorem Pos.head {ts:List aw} (h:Pos ts):0 < (ax ts).line:=by
 have hp:=h.1.1.pos;cases ts with
 | nil=>simp at hp
 | cons t r=>exact h.2 t aB
theorem DW {α β:Type} {r:PR α} {f:α→List aw→PR β} (hr:V1 r) (hf:∀ y,Safe (f y)):V1 (r.bind f):=by
 cases r with
 | ok x ts=>exact hf x ts hr
 | bad a b c=>exact hr
theorem Safe.bind {α β:Type} {p:List aw→PR α} {f:α→List aw→PR β} (hp:Safe p) (hf:∀ y,Safe (f y)):Safe (fun ts=>(p ts).bind f):=fun ts h=>DW (hp ts h) hf
theorem wk {α:Type} (x:α):Safe (fun ts=>PR.ok x ts):=fun ts h=>h
theorem DX {α:Type} {n:Int} (h1:1≤n) (h2:n≤26):Safe (fun ts=>(eY n ts:PR α)):=fun ts h=>⟨h1,h2,h.head⟩
theorem DY {α:Type}:Safe (fun ts=>(iy ts:PR α)):=fun ts h=>by
 have hn:lM ts=2∨lM ts=4:=by
  unfold lM;split
  ·exact .inl rfl
  ·exact .inr rfl
 show adX (lM ts) (ax ts).line;rcases hn with e|e
 ·rw[e];exact⟨ah,ah,h.head⟩
 ·rw[e];exact⟨ah,ah,h.head⟩
theorem Pos.tail {ts:List aw} (h:Pos ts) (hk:(ax ts).kind≠0):Pos ts.tail:=⟨h.1.tail hk,fun t ht=>h.2 t (List.mem_of_mem_tail ht)⟩
theorem ry (t:List UInt8):Safe (cj t):=fun ts h=>by
 unfold cj;by_cases hs:dt t ts=true
 ·rw[if_pos hs];exact h.tail (mY hs)
 ·rw[if_neg hs];exact DY ts h
theorem QV (k:Int):Safe (dJ k):=fun ts h=>by
 unfold dJ;by_cases hk:(ax ts).kind=k∧k≠0
 ·rw[if_pos hk];exact h.tail (by rw[hk.1];exact hk.2)
 ·rw[if_neg hk];exact DY ts h
theorem FZ:Safe ee:=fun ts h=>by
 unfold ee;by_cases hs:p8 ts=true
 ·rw[if_pos hs];split
  ·exact h.tail (adY hs)
  ·exact DX ah ah ts h
 ·rw[if_neg hs];exact DY ts h
theorem QW (b:Nat):Safe (gQ b):=fun ts h=>by
 unfold gQ;by_cases hk:(ax ts).kind=2
 ·rw[if_pos hk];split
  ·exact h.tail qp
  ·exact DX ah ah ts h
 ·rw[if_neg hk];exact DY ts h
theorem adZ:Safe oF:=fun ts h=>by
 have:=QW 4294967296 ts h;unfold oF;cases hw:gQ 4294967296 ts with
 | ok n t=>rw[hw]at this;exact this
 | bad a b c=>rw[hw]at this;exact this
theorem QX:Safe mZ:=fun ts h=>by
 unfold mZ;by_cases hk:(ax ts).kind=2
 ·rw[if_pos hk];split
  ·exact h.tail qp
  ·rename_i m hm
   rcases ad0 (ax ts).text with ⟨n,d,-,he⟩|⟨m',-,he⟩
   ·rw[he]at hm;cases hm
   ·rw[he]at hm;cases hm
    split
    ·exact DX ah ah ts h
    ·exact DX ah ah ts h
 ·rw[if_neg hk];exact DY ts h
theorem ali:Safe p9:=fun ts h=>by
 unfold p9;by_cases hk:(ax ts).kind=1
 ·rw[if_pos hk];split
  ·exact h.tail qp
  ·split
   ·exact h.tail qp
   ·exact DY ts h
 ·rw[if_neg hk];exact h
theorem alj:Safe uP:=fun ts h=>by
 unfold uP;by_cases hk:(ax ts).kind=4∧(ax ts).text.length=3
 ·rw[if_pos hk];exact h.tail (by rw[hk.1];decide)
 ·rw[if_neg hk];exact DY ts h
theorem ad1:∀ (f:Nat),Safe (pg f)
 | 0=>wk ()
 | f+1=>fun ts h=>by
  unfold pg;split
  ·exact h
  ·have hn:=QV (ax ts).kind ts h;cases hx:dJ (ax ts).kind ts with
   | ok x t=>rw[hx]at hn;exact ad1 f t hn
   | bad a b c=>rw[hx]at hn;exact hn
theorem ad2:∀ (f:Nat),Safe (qD f)
 | 0=>wk ()
 | f+1=>fun ts h=>by
  rw[Mv];by_cases hs:dt [67,77,95] ts=true
  ·rw[if_pos hs];have hk:=ad1 ts.tail.length ts.tail (h.tail (mY hs));unfold xY;cases hx:pg ts.tail.length ts.tail with
   | bad a b c=>rw[hx]at hk;exact hk
   | ok x t=>
    rw[hx]at hk;have hm:=ry [59] t hk;simp only;cases hy:cj [59] t with
    | bad a b c=>rw[hy]at hm;exact hm
    | ok y t2=>rw[hy]at hm;exact ad2 f t2 hm
  ·rw[if_neg hs];exact h
theorem Mw:Safe dQ:=fun ts h=>ad2 _ ts h
theorem ad3:∀ (f:Nat) (l:List (List UInt8)),Safe (lO f l)
 | 0,l=>wk l
 | f+1,l=>fun ts h=>by
  unfold lO;by_cases hs:dt [44] ts=true
  ·rw[if_pos hs];exact DW (FZ _ (h.tail (mY hs))) fun y=>ad3 f _
  ·rw[if_neg hs];exact h
theorem alk:Safe nc:=
 (ry _).bind fun _=>FZ.bind fun _=>ali.bind fun _=>(ry _).bind fun _=>(QW _).bind fun _=>(ry _).bind fun _=>(QW _).bind fun _=>alj.bind fun _=>
 (ry _).bind fun _=>QX.bind fun _=>(ry _).bind fun _=>QX.bind fun _=>(ry _).bind fun _=>(ry _).bind fun _=>QX.bind fun _=>(ry _).bind fun _=>QX.bind fun _=>(ry _).bind fun _=>
 (QV _).bind fun _=>FZ.bind fun n1=>Safe.bind (fun ts h=>ad3 ts.length [n1] ts h) fun _=>wk _
theorem ad4:∀ (f:Nat) (l:List et),Safe (kg f l)
 | 0,l=>wk l
 | f+1,l=>fun ts h=>by
  unfold kg;split
  ·split
   ·exact DX ah ah ts h
   ·exact DW (alk ts h) fun y=>ad4 f _
  ·exact h
theorem alm:Safe my:=
 (ry _).bind fun _=>adZ.bind fun _=>FZ.bind fun _=>(ry _).bind fun _=>(QW _).bind fun _=>FZ.bind fun _=>Safe.bind (fun ts h=>ad4 ts.length [] ts h) fun _=>wk _
theorem ad5:∀ (f:Nat) (l:List (Int×List UInt8)),Safe (nP f l)
 | 0,l=>wk l
 | f+1,l=>fun ts h=>by
  unfold nP;by_cases hk:(ax ts).kind=2
  ·rw[if_pos hk];split
   ·exact DX ah ah ts h
   ·split
    ·exact DX ah ah ts h
    ·exact DW (QV _ _ (h.tail qp)) fun y=>ad5 f _
  ·rw[if_neg hk];exact h
theorem aln:Safe mC:=
 (ry _).bind fun _=>adZ.bind fun _=>FZ.bind fun _=>Safe.bind (fun ts h=>ad5 ts.length [] ts h) fun _=>(ry _).bind fun _=>wk _
theorem ad6:∀ (f:Nat) (l:List (List UInt8)),Safe (jr f l)
 | 0,l=>wk l
 | f+1,l=>fun ts h=>by
  unfold jr;split
  ·exact DW (FZ ts h) fun y=>ad6 f _
  ·exact h
theorem alo:Safe qE:=fun ts h=>by
 unfold qE;by_cases hs:dt [86,69,82,83,73,79,78] ts=true
 ·rw[if_pos hs];exact DW (QV _ _ (h.tail (mY hs))) fun y=>Mw.bind fun _=>wk _
 ·rw[if_neg hs];exact h
theorem ad7:∀ (f:Nat) (l:List bj),Safe (jl f l)
 | 0,l=>wk l
 | f+1,l=>fun ts h=>by
  unfold jl;split
  ·split
   ·exact DX ah ah ts h
   ·exact DW (alm ts h) fun y=>Mw.bind fun _=>ad7 f _
  ·exact h
theorem ad8:∀ (f:Nat) (l:List bK),Safe (jC f l)
 | 0,l=>wk l
 | f+1,l=>fun ts h=>by
  unfold jC;split
  ·exact DW (aln ts h) fun y=>Mw.bind fun _=>ad8 f _
  ·exact h
theorem alp (d:aS):Safe (uQ d):=fun ts h=>by
 unfold uQ;split
 ·exact h
 ·exact DY ts h
theorem alq:Safe mq:=
 Mw.bind fun _=>alo.bind fun _=>(ry _).bind fun _=>(ry _).bind fun _=>Safe.bind (fun ts h=>ad6 ts.length [] ts h) fun _=>Mw.bind fun _=>
 Safe.bind (fun ts h=>ad7 ts.length [] ts h) fun _=>Safe.bind (fun ts h=>ad8 ts.length [] ts h) fun _=>alp _
theorem sw.lines {s:List UInt8} {n:Nat} {l:List aw} (h:sw s n l):∀ t∈l,0 < t.line:=by
 induction h with
 | fin n q hn hb=>
  intro t ht;rw[oY]at ht;subst ht;exact hb.pos ah
 | tok n i m t r hn hi hb ht hm hr ih=>
  intro x hx;rcases nL.1 hx with rfl|hx
  ·exact hb.pos ah
  ·exact ih x hx
theorem alr {s:List UInt8} {T:List aw} (h:gB s=.good T):Pos T:=⟨Mu h,(V3 h).lines⟩
theorem als {s:List UInt8} {T:List aw} {no L C:Int} (h:gB s=.good T) (hb:mq T=.bad no L C):1≤no∧no≤26∧0 < L:=by
 have:=alq T (alr h);rw[hb]at this;exact this
theorem aqn:∀ (f:Nat) (s:List UInt8) (sk:Nat) (p:Int×Int) (acc:List aw) (v:Value),0 < p.1→fX f s sk p acc=.bad v→∃ no L C,Eo v no L C:=by
 intro f
 induction f with
 | zero=>intro s sk p acc v hp h;simp[fX]at h
 | succ f ih=>
  intro s sk p acc v hp h;unfold fX at h;have hn:∀ r,0 < (bW p r).1:=fun r=>by unfold bW;split<;>simp only<;>omega
  split at h
  ·cases h
  ·rename_i hne
   split at h
   ·have dp:=MA s hne;cases ht:gG s with
    | bad e=>
     rw[ht]at h dp;injection h with h
     obtain⟨h1,h2⟩:=dp;exact⟨(e:Nat),p.1,p.2,.inr ⟨h.symm,hp⟩,ae,ae⟩
    | good k t n=>
     rw[ht]at h;exact ih _ _ _ _ _ (hn _) h
   ·exact ih _ _ _ _ _ (hn _) h
theorem aqo {s:List UInt8} {v:Value} (h:gB s=.bad v):∃ no L C,Eo v no L C:=by
 rcases agB s with ⟨_,h2,_⟩|⟨u,h1,h2,_⟩|⟨_,h2,_⟩
 ·rw[h]at h2;injection h2 with h2
  exact⟨5,0,0,.inl ⟨h2,rfl,rfl⟩,ah,ah⟩
 ·rw[h]at h2;injection h2 with h2
  exact⟨6,_,_,.inr ⟨h2,h1⟩,ah,ah⟩
 ·rw[h]at h2;exact aqn _ _ _ _ _ _ ah h2.symm
theorem aqp {v:Value} {n L C n' L' C':Int} (h:Eo v n L C) (h2:Eo v n' L' C'):n=n'∧L=L'∧C=C':=by
 rcases h.1 with ⟨h3,rfl,rfl⟩|⟨h3,_⟩<;>rcases h2.1 with ⟨h4,rfl,rfl⟩|⟨h4,_⟩
 ·rw[h3]at h4;unfold dE at h4;simp at h4;exact⟨h4,rfl,rfl⟩
 ·rw[h3]at h4;unfold dE eH at h4;simp at h4
 ·rw[h3]at h4;unfold dE eH at h4;simp at h4
 ·rw[h3]at h4;unfold eH at h4;simp at h4;exact h4
theorem aqm (s:List UInt8) :
  (∃ v no L C,Eo v no L C∧jX s=.bad v∧∀ wo e w',yi wo (gB s) e w'→e=.returned (.tuple #[.agg bf,.int .i64 no,.agg #[.int .i64 L,.int .i64 C]])∧Below wo.heap.size wo w') ∨
  (∃ d,oy d 1048577∧jX s=.good (bI d)∧∀ wo e w',yi wo (gB s) e w'→∃ D:Array Value,e=.returned (.tuple #[.agg D,.int .i64 0,.agg #[.int .i64 0,.int .i64 0]])∧tB wo.heap.size w' d D.toList∧Below wo.heap.size wo w'):=by
 cases hw:gB s with
 | bad v=>
  obtain⟨no,L,C,he⟩:=aqo hw;refine .inl ⟨v,no,L,C,he,by unfold jX;rw[hw],fun wo e w' h=>?_⟩;unfold yi at h;obtain⟨no',L',C',h1,h2,h3⟩:=h;obtain⟨rfl,rfl,rfl⟩:=aqp he h3;exact⟨h1,h2⟩
 | good T=>
  obtain⟨a1,a2,-,-⟩:=QT hw;have hf:jX s=match zY T with
   | .ok l _=>.good l
   | .bad no l c=>.bad (eH no l c):=by unfold jX;rw[hw];rfl
  rw[VZ]at hf;cases hd:mq T with
  | bad no L C=>
   obtain⟨h1,h2,h3⟩:=als hw hd;rw[hd]at hf;refine .inl ⟨_,no,L,C,⟨.inr ⟨rfl,h3⟩,h1,h2⟩,hf,fun wo e w' h=>?_⟩;unfold yi at h;simp only[hd]at h;exact h
  | ok d t=>
   rw[hd]at hf;have hb:=adU hd (Mu hw);refine .inr ⟨d,⟨hb.DN,hb.xu,hb.msg,by have:=hb.xw;omega,hb.tab⟩,hf,fun wo e w' h=>?_⟩;unfold yi at h;simp only[hd]at h;exact h
theorem eR.laid {w:World} (h:eR w):vY w:=h.Jl
structure ap7 (w w':World) (D:Array Value) (L C:Int):Prop where
  db:w'.heap[w.heap.size]? = some (.cells D 33)
  pl:ai w' (w.heap.size+1) #[.int .i64 L,.int .i64 C]
  cL:Below w.heap.size w w'
theorem agv (w:World) (D:Array Value) (L C:Int):ap7 w (((((w.alloc (.cells bf 33)).alloc (.cells #[.int .i64 0,.int .i64 0] 24)).setRow w.heap.size D).setCell ⟨w.heap.size+1,0,none⟩ (.int .i64 L)).setCell ⟨w.heap.size+1,1,none⟩ (.int .i64 C)) D L C:=by
  have h1:((w.alloc (.cells bf 33)).alloc (.cells #[.int .i64 0,.int .i64 0] 24)).heap[w.heap.size]? = some (.cells bf 33):=by
    rw[zG _ _ _ aB];exact dK w _
  have h2:((w.alloc (.cells bf 33)).alloc (.cells #[.int .i64 0,.int .i64 0] 24)).heap[w.heap.size+1]? = some (.cells #[.int .i64 0,.int .i64 0] 24):=by
    have:=dK (w.alloc (.cells bf 33)) (.cells #[.int .i64 0,.int .i64 0] 24)
    rwa [jW]at this
  have h3:=setRow_heap _ w.heap.size bf D 33 (0,0) h1;have h4:=(gK ((w.alloc (.cells bf 33)).alloc (.cells #[.int .i64 0,.int .i64 0] 24)) w.heap.size (w.heap.size+1) D ae).trans h2;have h5:=bJ h4 0 (.int .i64 L);have h6:=bJ h5 1 (.int .i64 C);refine⟨?_,⟨_,h6⟩,?_⟩
  · rw[dN _ _ _ _ (show w.heap.size≠w.heap.size+1 by omega),dN _ _ _ _ (show w.heap.size≠w.heap.size+1 by omega)]
    exact h3
  · have g1:Below w.heap.size w ((w.alloc (.cells bf 33)).alloc (.cells #[.int .i64 0,.int .i64 0] 24)):=((aC _ _).alloc af _).alloc aB _
    have g2:=pL g1 af D;exact(pX g2 (show w.heap.size≤w.heap.size+1 by omega) 0 (.int .i64 L)).trans (pX (aC _ _) (show w.heap.size≤w.heap.size+1 by omega) 1 (.int .i64 C))
theorem ap8 (s:List UInt8) (v:Value) (no L C:Int) (he:Eo v no L C) (cF:∀ w,eR w→Calls prog 19 #[.string ⟨s.toArray⟩] w fun e w'=>e=.returned (.tuple #[.slice none 0 0,v])∧Below w.heap.size w w')
    (cR:∀ w,Calls prog 22 #[.string ⟨s.toArray⟩] w fun e w'=>e=.returned (.tuple #[.agg bf,.int .i64 no,.agg #[.int .i64 L,.int .i64 C]])∧Below w.heap.size w w') (w:World) (hW:eR w) :
    Calls prog 13 #[.string ⟨s.toArray⟩] w fun e w'=>e=.returned (.bool true)∧Below w.heap.size w w':=by
  have HP:Hid ((L=0∧∀ w',vY w'→Calls prog 23 #[v,.int .i64 no] w' fun e w''=>e=.returned (.bool true)∧Below w'.heap.size w' w'') ∨
     (0 < L∧∀ w',vY w'→Calls prog 21 #[v,.int .i64 no,.int .i64 L,.int .i64 C] w' fun e w''=>e=.returned (.bool true)∧Below w'.heap.size w' w'')):=Qh (by
    obtain⟨h1,h2,h3⟩:=he;rcases h1 with ⟨rfl,rfl,rfl⟩|⟨rfl,h4⟩
    · exact .inl ⟨rfl,fun w' hg=>by simpa using ap9 no no h2 h3 w' hg⟩
    · exact .inr ⟨h4,fun w' hg=>ac1 no L C h2 h3 w' hg⟩)
  have mF:(no != 0)=true:=(by have:=he.2.1;rw[bne_iff_ne];omega);have HW:=Qh hW;clear he hW;have Ep:bf.size=9:=rfl;have zR:bf.all (·.oneCell')=true:=uz;go_enter func13,ntmps13
  go_wp2_with fail;refine aQ (cF _ HW.o) ?_;intro w1 hb
  replace HW:=Qh (HW.o.keep hb);have HB:=Qh hb;clear hb;go_wp2_with fail;refine CW (cF _ HW.o) ?_;intro w2 hb HW HB
  clear hb cF;go_wp2_with fail;refine CW (cR _) ?_;intro w3 hb HW HB
  clear hb cR;obtain⟨D,hD⟩:∃ D,D=bf:=⟨_,rfl⟩
  rw[← hD]at Ep zR ⊢;have Ar:=Qh (agv w3 D L C);have b7:ai ((w3.alloc (.cells bf 33)).alloc (.cells #[.int .i64 0,.int .i64 0] 24)) w3.heap.size bf:=(ai.new w3 bf 33).alloc _;have b9:ai (((w3.alloc (.cells bf 33)).alloc (.cells #[.int .i64 0,.int .i64 0] 24)).setRow w3.heap.size D) (w3.heap.size+1) #[.int .i64 0,.int .i64 0]:=by
    exact abI
  obtain⟨p0,p1,f0,f1⟩:=b9.two;clear hD b9;go_upto_region 4 with (first|(refine iC (cs:=D) b7 33 (.tmp 7) (.tmp 25) (by rw[Ep];exact jw) (by rw[Ep];rfl) zR ?_))
  generalize ((((((w3.alloc (.cells bf 33)).alloc (.cells #[.int .i64 0,.int .i64 0] 24)).setRow w3.heap.size D).setCell ⟨w3.heap.size+1,0,none⟩ (.int .i64 L)).setCell ⟨w3.heap.size+1,1,none⟩ (.int .i64 C)))=w4 at *;have HK:=Qh Ar.o.pl;replace HW:=Qh (HW.o.keep Ar.o.cL);replace HB:=Qh (aH HB.o Ar.o.cL af);clear Ar b7 p0 p1 f0 f1 zR Ep;rcases HP.o with ⟨rfl,cP⟩|⟨h0,cP⟩
  · obtain⟨q0,q1,-,-⟩:=HK.o.two
    clear HP;go_wp2_with fail;refine CW (cP _ (eR.laid HW.o)) ?_;intro w7 hb HW HB
    replace HK:=Qh (HK.o.keep hb af);clear hb q0 q1;go_wp2_with fail;refine aQ (cP _ (eR.laid HW.o)) ?_;intro w8 hb
    replace HB:=Qh (aH HB.o hb af);replace HK:=Qh (HK.o.keep hb af);obtain⟨q0,q1,-,-⟩:=HK.o.two;clear hb cP;exact ui
  · obtain⟨q0,q1,-,-⟩:=HK.o.two
    have hL0:(L == 0)=false:=ft;clear HP;go_wp2_with fail;refine CW (cP _ (eR.laid HW.o)) ?_;intro w7 hb HW HB
    replace HK:=Qh (HK.o.keep hb af);clear q0 q1;obtain⟨q0,q1,-,-⟩:=HK.o.two;clear hb;go_wp2_with fail;refine aQ (cP _ (eR.laid HW.o)) ?_;intro w8 hb
    replace HB:=Qh (aH HB.o hb af);clear hb cP;exact ui
theorem aqa:eO prog 52 98 1 16:=eO.mk' .nilIface underlying52 aj rfl ah ah
theorem Yu {w:World} {base:Nat} {T:List (aX×Nat×Nat)} {d:aS} {aa:Option Addr} {N ca:Nat} (h:aZ w base 98 qa 1 (.slice aa N ca) T) (hf:T.map Prod.fst=bI d):ei w wu 1 aa ca (bI d):=by
 have h2:=h.fst (rd:=QZ) fun x _ cs hc=>ad9 hc
 exact acb
theorem Yv {b:Nat} {w:World} {d:aS} {cs:List Value} (h:tB b w d cs):rf w d cs:=tA (ajc h (bV _))
theorem aqb {w:World} {base N ca:Nat} {aa:Option Addr} {rows:List (Row 1)} (ho:aG w base 98 1 Row.en (.slice aa N ca) rows) {L:List bU} (hL:iM (fun (y:bU) (r:Row 1)=>r.1=[y.val]) L rows) (h0:0 < L.length) :
  ∃ g,aa=some ⟨g,0,none⟩∧base≤g∧g < w.heap.size∧∀ i (hi:i < L.length),w.cell? ⟨g,0+i,none⟩=some L[i].val:=by
 have hlen:=hL.len;obtain⟨g,cap,hv,h1,h2,-,-⟩:=ho.block ae;injection hv with e1 e2 e3
 subst e1;refine⟨g,rfl,h1,h2,fun i hi=>?_⟩;obtain⟨b,o,e,-,hc⟩:=bA.cells ho.sl.2 Row.pU ah (k:=i) ae;cases e
 have:=hc 0 ah;rw[Nat.mul_one,q7]at this;rw[this];unfold Row.en;rw[hL.get hi ae];rfl
theorem qz.of {α:Type} {w w':World} {kb base a b size:Nat} {e:TypeId} {en:α→List Value} {l:List ((Value×List α)×Nat×Nat)} (hc:fK a l b) (hb:b≤kb) (ho:∀ x∈l,J6 w e size en x) (hO:aA kb w w') (ha:base≤a):qz w' base e size en l:=by
 have key:∀ j (hj:j < l.length),uK l j=l[j].1.1∧xM l j=l[j].1.2:=fun j hj=>by simp[uK,xM,hj]
 refine⟨fun j hj=>?_,fun i j hi hj uV=>?_⟩
 ·rw[(key j hj).1,(key j hj).2];have hm:=gU hj;have h1:=ho _ hm;have h2:=hc.ge _ hm;refine(h1.1.fU ae).vo fun k hk=>?_
  have h3:=h1.2 k hk;have h4:=h1.1.lt k hk;refine hO.block k h4.2 (by intro hcc;simp at hcc;omega)
 ·rw[(key i hi).1,(key j hj).1];exact hc.apart ho i j hi hj uV
theorem Yw {α:Type} {l:List ((Value×List α)×Nat×Nat)} {B:Nat} (h:∀ x∈l,x.1.2.length≤B) (j:Nat) (hj:j < l.length):(xM l j).length≤B:=by
 have:=h _ (gU hj)
 simpa [xM,hj]using this
theorem aZ.rows {α:Type} {rd:World→α→List Value→Prop} {w:World} {base:Nat} {e:TypeId} {size:Nat} {v:Value} {xs:List α} (h:aZ w base e rd size v xs):∃ rows:List (Row size),aG w base e size Row.en v rows∧iM (fun x (r:Row size)=>rd w x r.1) xs rows:=h
theorem aqc (w:World):ie (w.alloc (.cells #[.slice none 0 0,.slice none 0 0,.slice none 0 0,.slice none 0 0,.slice none 0 0,.slice none 0 0,.slice none 0 0,.slice none 0 0,.slice none 0 0,.slice none 0 0,.slice none 0 0,.slice none 0 0,.slice none 0 0,.slice none 0 0,.slice none 0 0] 86)) (w.alloc (.cells #[.slice none 0 0,.slice none 0 0,.slice none 0 0,.slice none 0 0,.slice none 0 0,.slice none 0 0,.slice none 0 0,.slice none 0 0,.slice none 0 0,.slice none 0 0,.slice none 0 0,.slice none 0 0,.slice none 0 0,.slice none 0 0,.slice none 0 0] 86)) w.heap.size [] [] []:=
 ⟨⟨.slice none 0 0,.slice none 0 0,.slice none 0 0,dK w _,aG.nil _ _ _ _ _,aG.nil _ _ _ _ _,aG.nil _ _ _ _ _⟩,World.grownBy.refl _ _,aB⟩
theorem agw {w:World} {kb a b ca N:Nat} {aa:Option Addr} {T:List (aX×Nat×Nat)} {d:aS} (h:aZ w a 98 qa 1 (.slice aa N ca) T) (hf:T.map Prod.fst=bI d) (hN:N=(bI d).length) (hc:fK a T b) (hb:b≤kb) (hkb:kb < w.heap.size) (h0:0 < kb) (lJ:∀ x∈bI d,Yx x) :
  ∃ (L:List bU) (TX:List ((Value×List (List UInt8))×Nat×Nat)) (RW:List ((Value×List (Int×List UInt8))×Nat×Nat)) (SG:List ((Value×List (Row 19))×Nat×Nat)) (g:Nat),agx w kb a b (bI d) L TX RW SG∧L.length=N∧aa=some ⟨g,0,none⟩∧g < w.heap.size∧(Value.slice aa N ca).ownBlock=some g∧∀ i (hi:i < L.length),w.cell? ⟨g,0+i,none⟩=some L[i].val:=by
 obtain⟨rows,h1,h2⟩:=h;obtain⟨L,TX,RW,SG,P,hL⟩:=aqd hkb (show 0 < w.heap.size by omega) ae h2 hc hb (fun x hx=>lJ x.1 (by rw[← hf];exact td.2 ⟨x,hx,rfl⟩));rw[hf]at P;have hLN:L.length=N:=(by rw[hN];exact P.len);have bm:0 < L.length:=(by rw[hLN,hN,aep];omega);obtain⟨g,e,k1,k2,k3⟩:=aqb h1 hL bm;exact⟨L,TX,RW,SG,g,P,hLN,e,k2,lD,k3⟩
theorem aqe (s:List UInt8) (d:aS) (hd:oy d 1048577) (cF:∀ w,eR w→Calls prog 19 #[.string ⟨s.toArray⟩] w fun e w'=>∃ (v:Value) (T:List (aX×Nat×Nat)),e=.returned (.tuple #[v,.nilIface])∧aZ w' w.heap.size 98 qa 1 v T∧T.map Prod.fst=bI d∧fK w.heap.size T w'.heap.size∧Below w.heap.size w w')
  (cR:∀ w,Calls prog 22 #[.string ⟨s.toArray⟩] w fun e w'=>∃ D:Array Value,e=.returned (.tuple #[.agg D,.int .i64 0,.agg #[.int .i64 0,.int .i64 0]])∧tB w.heap.size w' d D.toList∧Below w.heap.size w w') (w:World) (hW:eR w) :
  Calls prog 13 #[.string ⟨s.toArray⟩] w fun e w'=>e=.returned (.bool true)∧Below w.heap.size w w':=by
 obtain⟨n1,n2,n3,n4,n5⟩:=aqf hd;have HN:=Qh (And.intro n1 (And.intro n2 (And.intro n3 n5)));obtain⟨N,hN⟩:∃ N,N=(bI d).length:=⟨_,rfl⟩
 have hNb:N≤300000:=ae;have qJ:=Qh hN;have HW:=Qh hW;have cP:=fun W=>(aqg 0 W).mono fun e w' h=>vK
 have cI:=fun (W:World) (a:Option Addr) (c:Nat) (D:Array Value) (hs:ei W wu 1 a c (bI d)) (hC:rf W d D.toList)=>amg d N hN ae a c W hs D hC
 clear hd n1 n2 n3 n4 n5 hW hN;go_enter func13,ntmps13
 go_wp2_with fail;refine aI (cF _ HW.o) ?_
 rintro e w1 ⟨va,TA,rfl,tR,GH,JP,hb⟩;obtain⟨aa,ca,Nx,-⟩:=tR.shape;rw[show TA.length=N by rw[qJ.o,← GH,iw]]at Nx;subst Nx;have Ak:=Qh GH;have HCA:=Qh JP;have np:=Qh fun k hk=>(tR.lt k hk).2
 have kU:=Qh tR;replace HW:=Qh (HW.o.keep hb);have hs1:=hb.size;have HB:=Qh hb;clear hb tR GH JP;go_wp2_with fail;refine aI (cF _ HW.o) ?_
 rintro e w2 ⟨vb,TB,rfl,FM,hfb,hcb,hb⟩;obtain⟨ab,cb,evb,-⟩:=FM.shape;rw[show TB.length=N by rw[qJ.o,← hfb,iw]]at evb;subst evb;have Sv:=Qh hfb;have HCB:=Qh hcb;have HAB:=Qh (show Apart (.slice aa N ca) (.slice ab N cb)from fun k h1 h2=>by have:=np.o k h1;have:=(FM.lt k h2).1;omega);have mN:=Qh FM;replace kU:=Qh (kU.o.keep nZ hb);replace HW:=Qh (HW.o.keep hb);replace HB:=Qh (aH HB.o hb af);have hs2:=hb.size;clear hb cF FM hfb hcb np;go_wp2_with fail;refine jH (cR _) ?_;intro w3 D hdd hb
 replace kU:=Qh (kU.o.keep nZ hb);replace mN:=Qh (mN.o.keep nZ hb);replace HW:=Qh (HW.o.keep hb);replace HB:=Qh (aH HB.o hb af);have hs3:=hb.size;obtain⟨Ep,zR⟩:=Lh hdd;have HD:=Qh hdd;clear hb cR hdd;have Ar:=Qh (agv w3 D 0 0);have b7:ai ((w3.alloc (.cells bf 33)).alloc (.cells #[.int .i64 0,.int .i64 0] 24)) w3.heap.size bf:=(ai.new w3 bf 33).alloc _;have b9:ai (((w3.alloc (.cells bf 33)).alloc (.cells #[.int .i64 0,.int .i64 0] 24)).setRow w3.heap.size D) (w3.heap.size+1) #[.int .i64 0,.int .i64 0]:=by
  exact abI
 obtain⟨p0,p1,f0,f1⟩:=b9.two;have Ny:(prog.info? 33).map (·.size)=some D.size:=(by rw[Ep];exact jw);clear b9;go_upto_region 4 with (first|(refine iC (cs:=D) b7 33 (.tmp 7) (.tmp 25) Ny (by rw[Ep];rfl) zR ?_))
 generalize ((((((w3.alloc (.cells bf 33)).alloc (.cells #[.int .i64 0,.int .i64 0] 24)).setRow w3.heap.size D).setCell ⟨w3.heap.size+1,0,none⟩ (.int .i64 0)).setCell ⟨w3.heap.size+1,1,none⟩ (.int .i64 0)))=w4 at *;have hb:=Ar.o.cL;replace kU:=Qh (kU.o.keep nZ hb);replace mN:=Qh (mN.o.keep nZ hb);replace HD:=Qh (E3 _ _ _ _ _ HD.o hb);replace HW:=Qh (HW.o.keep hb);replace HB:=Qh (aH HB.o hb af);have HK:=Qh Ar.o.pl;have tS:=Qh Ar.o.db;have Jq:=VC Ar.o.db;have yx:=hb.size;have WI:=Qh hs3;generalize w3.heap.size=k7 at *;clear Ar b7 p0 p1 f0 f1 hb;obtain⟨q0,q1,-,-⟩:=HK.o.two;go_wp2_with fail;refine OQ (cP _) ?_;intro w5 hb kU mN HD HB
 replace HK:=Qh (HK.o.keep hb af);replace tS:=Qh (bF tS.o hb);have hs5:=hb.size;clear hb q0 q1;go_wp2_with fail;refine OQ (cP _) ?_;intro w6 hb kU mN HD HB
 replace HK:=Qh (HK.o.keep hb af);replace tS:=Qh (bF tS.o hb);have X4:=hb.size;clear hb;obtain⟨q0,q1,-,-⟩:=HK.o.two;go_upto_region 8 with fail
 clear q0 q1 HK HW cP;have hu:=underlying33;have b7:ai w6 k7 D:=⟨_,tS.o⟩
 go_wp2_with (refine fG b7 33 (.tmp 7) hu Ny ?_)
 refine OQ (cI _ _ _ _ (Yu kU.o Ak.o) (Yv HD.o)) ?_;intro w7 hb kU mN HD HB
 replace tS:=Qh (bF tS.o hb);have hs7:=hb.size;clear hb b7;have b7:ai w7 k7 D:=⟨_,tS.o⟩
 go_wp2_with (refine adh b7 33 (.tmp 7) hu Ny ?_)
 refine OQ (cI _ _ _ _ (Yu mN.o Sv.o) (Yv HD.o)) ?_;intro w8 hb kU mN HD HB
 replace tS:=Qh (bF tS.o hb);have hs8:=hb.size;clear hb b7;have DF:=HB;have aqh:w.heap.size≤w8.heap.size:=HB.o.size;have agy:(N+2)*16≤140737488355328:=ae;go_upto_region 10 with fail
 go_upto_region 11 with (at_builtin;go_loud (refine ai9 nZ aqa TA (by rw[qJ.o,← Ak.o,iw]) kU.o aqh agy (by rfl) uz (V4 ah ah ah) ?_))
 intro a' c' w9 tR hg hb;obtain⟨aqi,Yy,-⟩:=kU.o.rows;replace mN:=Qh (mN.o.other kU.o hg HAB.o nZ (V4 ah ah ah));replace HD:=Qh (Qm Yy hg (E3 _) (Vq _ ah ah ah ah ah) HD.o);replace tS:=Qh (jQ tS.o Yy ah hg);replace kU:=Qh tR;replace HB:=Qh (HB.o.trans hb);have Fa:=hb.size;clear hb hg Yy tR aqi agy;have b7:ai w9 k7 D:=⟨_,tS.o⟩
 have zS:((N:Int)+2 != (N:Int)+2)=false:=aB;go_wp2_with (refine adh b7 33 (.tmp 7) hu Ny ?_)
 refine aQ (cI _ _ _ _ (Yu mN.o Sv.o) (Yv HD.o)) ?_;intro fC hb
 replace kU:=Qh (kU.o.keep nZ hb);replace mN:=Qh (mN.o.keep nZ hb);replace HB:=Qh (aH HB.o hb af);have avb:=hb.size;clear hb b7 zS cI HD tS Ny zR Ep;have df:=Qh (aqc fC);have hb:=(aC fC.heap.size fC).alloc af (.cells #[.slice none 0 0,.slice none 0 0,.slice none 0 0,.slice none 0 0,.slice none 0 0,.slice none 0 0,.slice none 0 0,.slice none 0 0,.slice none 0 0,.slice none 0 0,.slice none 0 0,.slice none 0 0,.slice none 0 0,.slice none 0 0,.slice none 0 0] 86);have HGA:=Qh fun k hk=>(kU.o.lt k hk).2
 have HGB:=Qh fun k hk=>(mN.o.lt k hk).2
 replace kU:=Qh (kU.o.keep nZ hb);replace mN:=Qh (mN.o.keep nZ hb);replace HB:=Qh (aH HB.o hb af);have avc:=hb.size;clear hb;go_upto_region 14 with fail
 generalize fC.alloc (.cells #[.slice none 0 0,.slice none 0 0,.slice none 0 0,.slice none 0 0,.slice none 0 0,.slice none 0 0,.slice none 0 0,.slice none 0 0,.slice none 0 0,.slice none 0 0,.slice none 0 0,.slice none 0 0,.slice none 0 0,.slice none 0 0,.slice none 0 0] 86)=xD at *;have agz:=df.o.lt;have cz:=WI.o;have aqj:w1.heap.size≤fC.heap.size:=ae;have Sw:w2.heap.size≤fC.heap.size:=ae;have h0k:0 < fC.heap.size:=ae;obtain⟨LA,Yz,YA,YB,ga,PA,hlA,eaa,hga,hgo,hcA⟩:=agw kU.o Ak.o qJ.o HCA.o aqj agz h0k HN.o.2.2.2;have hgk:=HGA.o ga hgo;subst eaa;obtain⟨LB,TXB,RWB,SGB,gb,PB,Gb,ebb,hgb,agA,hcB⟩:=agw mN.o Sv.o qJ.o HCB.o Sw agz h0k HN.o.2.2.2;have avd:=HGB.o gb agA;subst ebb;obtain⟨m1,m2,m3,-⟩:=HN.o;have xA:=PA.J7;have yA:=PA.J8;have zA:=PA.fh;have xB:=PB.J7;have yB:=PB.J8;have zB:=PB.fh;have cA:=afP LA ae xD fC.heap.size PA.ok ga 0 ca hga ae hcA [] [] [] (by rw[mf,PA.tx,iw];omega) (by rw[mf,PA.rw,iw];omega) (by rw[mf,PA.sg,iw];omega) (some ⟨ga,0,none⟩) (fun _=>rfl) xD df.o;rw[mf,mf,mf,PA.tx,PA.rw,PA.sg,hlA]at cA;have cB:=fun W hW=>afP LB ae xD fC.heap.size PB.ok gb 0 cb hgb ae hcB (Yz.map (·.1.1)) (YA.map (·.1.1)) (YB.map (·.1.1)) (by rw[PB.tx,ey,iw,iw];omega) (by rw[PB.rw,ey,iw,iw];omega) (by rw[PB.sg,ey,iw,iw];omega) (some ⟨gb,0,none⟩) (fun _=>rfl) W hW
 rw[PB.tx,PB.rw,PB.sg,Gb]at cB;simp only[← vO]at cB;have ltx:=fun W (hW:aA fC.heap.size xD W)=>qz.of (base:=w.heap.size) (PA.J9.app PB.J9) Sw (Au PA.Ka PB.Ka) hW af
 have lrw:=fun W (hW:aA fC.heap.size xD W)=>qz.of (base:=w.heap.size) (PA.Kb.app PB.Kb) Sw (Au PA.Kc PB.Kc) hW af
 have lsg:=fun W (hW:aA fC.heap.size xD W)=>qz.of (base:=w.heap.size) (PA.Kd.app PB.Kd) Sw (Au PA.sgo PB.sgo) hW af
 have bh:w.heap.size≤xD.heap.size:=ae;have cE:=fun W (hW:ie xD W fC.heap.size ((Yz++TXB).map (·.1.1)) ((YA++RWB).map (·.1.1)) ((YB++SGB).map (·.1.1)))=>ajV xD fC.heap.size w.heap.size bh (Yz++TXB) (YA++RWB) (YB++SGB) Lv Lv Lv
  (fun j hj=>Yw (Au PA.Ke PB.Ke) j hj) (fun j hj=>Yw (Au PA.Kf PB.Kf) j hj) (fun j hj=>Yw (Au PA.Kg PB.Kg) j hj) W hW (ltx W hW.only) (lrw W hW.only) (lsg W hW.only)
 have hwk:w.heap.size≤fC.heap.size:=ae;clear PA PB xA xB yA yB zA zB m1 m2 m3 hcA hcB hgo agA ltx lrw lsg HCA HCB kU mN Ak Sv qJ HN HGA HGB;refine aY cA cB cE ?_;intro aqk aql HCE;clear cA cB cE;go_wp2_with fail;refine qT aqk.o ?_;intro FB eE;go_wp2_with fail;refine aQ (aql.o _ eE.o) ?_;intro BH hB
 replace eE:=Qh hB;clear hB;go_wp2_with fail;refine aQ (HCE.o _ eE.o) ?_;intro w14 hb
 exact U1 ((aA.below HB.o eE.o.only af hwk).trans hb)
theorem amM (s:List UInt8) (hs:s.length≤9223372036854775807) (w:World) (hW:eR w) :
  Calls prog 13 #[.string ⟨s.toArray⟩] w fun e w'=>e=.returned (.bool true)∧Below w.heap.size w w':=by
 rcases aqm s with ⟨v,no,L,C,he,hf,hr⟩|⟨d,hd,hf,hr⟩
 ·refine ap8 s v no L C he (fun w hW=>(Jk s hs w hW).mono fun e w' h=>?_) (fun w=>(aeu s hs w).mono fun e w' h=>hr _ _ _ h) w hW;rw[hf]at h;exact h
 ·refine aqe s d hd (fun w hW=>(Jk s hs w hW).mono fun e w' h=>?_) (fun w=>(aeu s hs w).mono fun e w' h=>hr _ _ _ h) w hW;rw[hf]at h;exact h
end Go.Proofs.YtfflljgnpfldfaaGreatDoor
