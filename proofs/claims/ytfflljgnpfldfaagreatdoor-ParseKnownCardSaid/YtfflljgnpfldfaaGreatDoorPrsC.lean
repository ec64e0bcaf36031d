/-
  The parser's steps at words: contracts.
-/
import Derived.Test.YtfflljgnpfldfaaGreatDoorLexG
import Derived.Test.YtfflljgnpfldfaaGreatDoorHeldP
set_option linter.all false
set_option maxHeartbeats 128000000
set_option maxRecDepth 100000
namespace Go.Proofs.YtfflljgnpfldfaaGreatDoor
open Go.RowKit
inductive PR (α:Type) where
 | ok (x:α) (ts:List aw)
 | bad (no line ak:Int)
def PR.bind {α β:Type} (r:PR α) (f:α→List aw→PR β):PR β:=match r with
 | .ok x ts=>f x ts
 | .bad n l c=>.bad n l c
def ax:List aw→aw
 | []=>⟨0,[],0,0⟩
 | t::_=>t
def eY {α:Type} (no:Int) (ts:List aw):PR α:=.bad no (ax ts).line (ax ts).ak
def lM (ts:List aw):Int:=if (ax ts).kind=0 then 2 else 4
def iy {α:Type} (ts:List aw):PR α:=eY (lM ts) ts
def dJ (kind:Int) (ts:List aw):PR aw:=if (ax ts).kind=kind∧kind≠0 then .ok (ax ts) ts.tail else iy ts
def dt (text:List UInt8) (ts:List aw):Bool:=decide ((ax ts).text=text) && ((ax ts).kind == 1 || (ax ts).kind == 4)
def cj (text:List UInt8) (ts:List aw):PR aw:=if dt text ts then .ok (ax ts) ts.tail else iy ts
def GN (text:List UInt8) (ts:List aw):PR Bool:=if dt text ts then .ok true ts.tail else .ok false ts
def Ay:List (List UInt8):=[[86,69,82,83,73,79,78],[66,85,95],[66,79,95],[83,71,95],[86,65,76,95],[67,77,95]]
def p8 (ts:List aw):Bool:=!decide ((ax ts).text∈Ay) && (ax ts).kind == 1
def ee (ts:List aw):PR (List UInt8):=if p8 ts then (if (ax ts).text.length≤64 then .ok (ax ts).text ts.tail else eY 11 ts) else iy ts
def pj (ts:List aw):Prop:=∃ l e,ts=l++[e]∧e.kind=0
theorem pj.pos {ts:List aw} (h:pj ts):0 < ts.length:=by
 obtain⟨l,e,rfl,-⟩:=h;simp
theorem pj.tail {ts:List aw} (h:pj ts) (hk:(ax ts).kind≠0):pj ts.tail:=by
 obtain⟨l,e,rfl,he⟩:=h;cases l with
 | nil=>exact absurd he hk
 | cons x l=>exact⟨l,e,rfl,he⟩
def bH (w:World) (kp:Nat) (ts:List aw):Prop:=∃ a cap,w.heap[kp]? = some (.cells #[.slice a ts.length cap] 111)∧bA w bZ 4 a cap ts∧∀ b o,a=some ⟨b,o,none⟩→b < kp
def eG (t:aw):Value:=.agg (bZ t).toArray
theorem bH.keep {w w':World} {kp:Nat} {ts:List aw} (h:bH w kp ts) (hb:Below w.heap.size w w'):bH w' kp ts:=by
 obtain⟨a,cap,h1,h2,h3⟩:=h;exact⟨a,cap,(hb.block kp (gE h1)).trans h1,h2.keep hb af,h3⟩
theorem bH.other {w w':World} {kp:Nat} {ts:List aw} (h:bH w kp ts) (hb:∀ b,b≤kp→w'.heap[b]? = w.heap[b]?):bH w' kp ts:=by
 obtain⟨a,cap,h1,h2,h3⟩:=h;exact⟨a,cap,(hb kp af).trans h1,h2.of_block fun b o e=>hb b (gV (h3 b o e)),h3⟩
theorem bH.row {w:World} {kp:Nat} {ts:List aw} (h:bH w kp ts) {k:Nat} (hk:kp < k) (L:Array Value):bH (w.setRow k L) kp ts:=h.other fun b hb=>gK _ _ _ _ ae
theorem bH.set {w:World} {kp:Nat} {ts:List aw} (h:bH w kp ts) {k:Nat} (hk:kp < k) (j:Nat) (v:Value):bH (w.setCell ⟨k,j,none⟩ v) kp ts:=h.other fun b hb=>dN _ _ _ _ (show b≠k by omega)
theorem bH.lt {w:World} {kp:Nat} {ts:List aw} (h:bH w kp ts):kp < w.heap.size:=by
 obtain⟨a,cap,h1,-⟩:=h;exact(gE h1)
theorem bA.P9 {α:Type} {w:World} {en:α→List Value} {size b o cap:Nat} {xs:List α} (h:bA w en size (some ⟨b,o,none⟩) cap xs) (hen:∀ x,(en x).length=size) (k:Nat) (hk:k≤xs.length):bA w en size (some ⟨b,o+k*size,none⟩) (cap - k) (xs.drop k):=by
 have hle:=h.le;refine⟨o7 hen _,?_,?_,(fun e=>sW),fun j hj=>?_⟩
 ·rw[e7];omega
 ·have:=h.max;omega
 ·rw[o7 hen,e7]at hj;have tF:k*size+j < (xs.flatMap en).length:=by
   rw[o7 hen];have:(xs.length - k)*size+k*size=xs.length*size:=by rw[← th];congr 1;omega
   omega
  obtain⟨b',o',e,h1⟩:=Sl.at' h (k*size+j) tF;cases e
  refine⟨b,o+k*size,rfl,?_⟩;rw[kE,h1];have aqW:xs.flatMap en=(xs.take k).flatMap en++(xs.drop k).flatMap en:=(by rw[← zx,ID]);have hl:((xs.take k).flatMap en).length=k*size:=(by rw[o7 hen,uC,Fx hk]);rw[aqW,LG ae,hl]
  congr 1
  omega
abbrev aA (kp:Nat) (w w':World):Prop:=w.grownBy w' (some kp)
theorem aA.of_below {w w':World} (kp:Nat) (h:Below w.heap.size w w'):aA kp w w':=⟨h.os,h.tape,h.output,h.size,fun k hk _=>h.block k hk⟩
theorem aA.trans {kp:Nat} {w w' w'':World} (h:aA kp w w') (h':aA kp w' w''):aA kp w w'':=
 ⟨h'.os.trans h.os,h'.tape.trans h.tape,h'.output.trans h.output,bQ h.size h'.size,fun k hk hne=>(h'.block k (iH hk h.size) hne).trans (h.block k hk hne)⟩
theorem aA.set {kp:Nat} {w w':World} (h:aA kp w w') (j:Nat) (v:Value):aA kp w (w'.setCell ⟨kp,j,none⟩ v):=
 h.trans ⟨rfl,rfl,rfl,pR,fun k _ hne=>dN _ _ _ _ (fun e=>hne (by rw[e]))⟩
theorem aA.below {kp B:Nat} {w0 w w':World} (h:Below B w0 w) (ho:aA kp w w') (hB:B≤w0.heap.size) (hk:B≤kp):Below B w0 w':=h.grown ho (bQ hB h.size) (fun k e=>by cases e;exact hk)
def fN {α:Type} (kp:Nat) (w:World) (V:α→Value) (R:PR α) (e:Ending) (w':World):Prop:=match R with
 | .ok x ts=>e=.returned (V x)∧aA kp w w'∧bH w' kp ts
 | .bad no l c=>e=.panicked [{ v:=eH no l c,recovered:=false }]∧aA kp w w'
open Go.Proofs.Tryz
abbrev kB:Array Value:=#[.int .i64 0,.string ⟨#[]⟩,.int .i64 0,.int .i64 0]
theorem aiN:(prog.info? 129).map (fun i=>(i.zero,i.size))=some (some (.agg kB),4):=aj
theorem H7:(prog.info? 129).map (·.size)=some 4:=aj
theorem C5 (t:aw):(bZ t).toArray.all (·.oneCell')=true:=by simp[bZ,Value.oneCell']
theorem pC (a b c d:Value) (w:World):(Instr.field 129 (.agg #[a,b,c,d]) 0).run prog w=.ok a w:=aj
theorem tU (a b c d:Value) (w:World):(Instr.field 129 (.agg #[a,b,c,d]) 1).run prog w=.ok b w:=aj
theorem yF (a b c d:Value) (w:World):(Instr.field 129 (.agg #[a,b,c,d]) 2).run prog w=.ok (.agg #[c,d]) w:=aj
theorem rF (ts:List aw) (ed:0 < ts.length) (kp:Nat) (w:World) (h:bH w kp ts) :
  Calls prog 95 #[.pointer (some ⟨kp,0,none⟩)] w fun e w'=>e=.returned (eG (ax ts))∧Below w.heap.size w w':=by
 obtain⟨a,cap,hk,hs,-⟩:=h;obtain⟨b,o,rfl,hb,hc⟩:=bA.cells hs Gj ah ed;refine O8 ?_;intro hb1;have f0:(w.alloc (.cells kB 129)).cell? ⟨kp,0,none⟩=some (.slice (some ⟨b,o,none⟩) ts.length cap):=dx (ai.cell ⟨_,hk⟩ 0 _ rfl) hb1;have hrg:(w.alloc (.cells kB 129)).rangeAt b o (bZ ts[0]):=fun j v hv=>by
  have hj:j < 4:=(by have:=(zt.1 hv).1;rwa [Gj]at this);have:=hc j hj;rw[Nat.zero_mul,kF]at this;exact dx (this.trans hv) hb1
 have hH:ax ts=ts[0]:=by
  cases ts with
  | nil=>simp at ed
  | cons t l=>rfl
 rw[hH];have hn:(0:Int) < ts.length:=ae;have hn':0 < ts.length:=ed;have b2:ai (w.alloc (.cells kB 129)) w.heap.size kB:=ai.new w kB _;have hu:=underlying129;obtain⟨L,hL⟩:∃ L,L=bZ ts[0]:=⟨_,rfl⟩
 refine abO ?_;intro hL4 mH hsz GI;rw[← hL]at hrg ⊢;have HB:=Qh hb1;clear hs hc hL hH hk hb1;go_enter func95,ntmps95
 go_wp2_with (first|(refine wpList_load_mid rfl 129 (.tmp 7) rfl b o rfl L _ hrg hu rfl hsz ?_)|(refine iC (cs:=L.toArray) b2 129 (.tmp 2) (.tmp 8) (by rw[GI];exact H7) (by rw[GI];rfl) mH ?_))
 have hrun:=fo (b2.row L.toArray) 129 _ hu rfl (by rw[GI];exact H7);refine bB (v:=.agg L.toArray) (by simp[results,results95,Act.put,asAddr,hrun]) rfl ⟨rfl,pL HB.o af _⟩
theorem GK (no:Int) (ts:List aw) (ed:0 < ts.length) (kp:Nat) (w:World) (h:bH w kp ts) :
  Calls prog 92 #[.pointer (some ⟨kp,0,none⟩),.int .i64 no] w fun e w'=>e=.panicked [{ v:=eH no (ax ts).line (ax ts).ak,recovered:=false }]∧Below w.heap.size w w':=by
 have c:=rF ts ed kp w h;unfold eG bZ at c;generalize ax ts=t at *;go_enter func92,ntmps92
 go_wp2_with fail;refine qT c ?_;clear c;intro w1 HB;have t2:=yF;go_wp2_with fail;exact⟨rfl,rfl,HB.o.alloc HB.o.size _⟩
theorem YG (a b:List UInt8):((⟨a.toArray⟩:ByteArray)=⟨b.toArray⟩)↔a=b:=⟨fun h=>by simpa using jA (fun x:ByteArray=>x.data.toList) h,fun h=>by rw[h]⟩
theorem Es (ts:List aw) (ed:0 < ts.length) (kp:Nat) (w:World) (h:bH w kp ts) :
  Calls prog 96 #[.pointer (some ⟨kp,0,none⟩)] w fun e w'=>e=.panicked [{ v:=eH (lM ts) (ax ts).line (ax ts).ak,recovered:=false }]∧Below w.heap.size w w':=by
 have c:=rF ts ed kp w h;have cw:=fun no W hW=>GK no ts ed kp W hW
 unfold eG bZ at c;have t0:=pC;have HH:=Qh h;obtain⟨NN,Et⟩:∃ NN,NN=lM ts:=⟨_,rfl⟩
 rw[← Et];unfold lM at Et;generalize ax ts=t at *;have HN:=Qh Et;clear Et;go_enter func96,ntmps96
 go_wp2_with fail;refine aQ c ?_;intro w1 hb;have HB:=Qh hb;have H1:=Qh (HH.o.keep hb);clear c hb h;by_cases hk:t.kind=0
 ·have HV:=Qh (show NN=2 by rw[HN.o,if_pos hk]);go_wp2_with fail;refine pO (cw 2 _ H1.o) ?_;intro w2 hb aM
  clear hb;go_wp2_with fail;exact⟨rfl,by rw[HV.o],aM.o⟩
 ·have HV:=Qh (show NN=4 by rw[HN.o,if_neg hk]);go_wp2_with fail;refine pO (cw 4 _ H1.o) ?_;intro w2 hb aM
  clear hb;go_wp2_with fail;exact⟨rfl,by rw[HV.o],aM.o⟩
theorem GL (text:List UInt8) (ts:List aw) (ed:0 < ts.length) (kp:Nat) (w:World) (h:bH w kp ts) :
  Calls prog 87 #[.pointer (some ⟨kp,0,none⟩),.string ⟨text.toArray⟩] w fun e w'=>e=.returned (.bool (dt text ts))∧Below w.heap.size w w':=by
 have c:=rF ts ed kp w h;unfold eG at c;have mH:=C5 (ax ts);obtain⟨B,hB⟩:∃ B,B=dt text ts:=⟨_,rfl⟩
 rw[← hB];unfold dt at hB;have hu:=underlying129;generalize ax ts=t at *;have HE:=Qh (show(bZ t).toArray=#[.int .i64 t.kind,.string ⟨t.text.toArray⟩,.int .i64 t.line,.int .i64 t.ak]from rfl);have hsz:(bZ t).toArray.size=4:=rfl;have mX:=Qh hB;clear hB;generalize (bZ t).toArray=L at *;go_enter func87,ntmps87
 go_wp2_with fail;refine aQ c ?_;intro w1 hb;have HB:=Qh (hb.alloc hb.size (.cells L 129));clear c hb h;go_upto_region 2 with (refine eX (Z:=kB) (cs:=L) 129 (.tmp 5) (.tmp 7) Ij Bk mH ?_)
 have b5:=ai.new w1 L 129;refine abw ?_;intro f0 f1;generalize w1.alloc (.cells L 129)=W at *;have hq:=YG t.text text;have HQ:=Qh hq;clear hq b5;generalize t.kind=K at *;by_cases hx:(⟨t.text.toArray⟩:ByteArray)=⟨text.toArray⟩
 ·have ht:t.text=text:=HQ.o.1 hx;rw[hx]at f1;by_cases h1:K=1
  ·subst h1;go_wp2_with fail;go_ret;exact⟨by rw[mX.o,fy ht];rfl,HB.o⟩
  ·by_cases h4:K=4
   ·subst h4;go_wp2_with fail;go_ret;exact⟨by rw[mX.o,fy ht];rfl,HB.o⟩
   ·have HV:=Qh (show B=false by rw[mX.o,bN h1,bN h4,Bool.or_false,Bool.and_false]);have e1:=bN h1;have e4:=bN h4;exact O7
 ·have ht:¬ t.text=text:=fun e=>hx (HQ.o.2 e)
  have ex:=bN ht;have HV:=Qh (show B=false by rw[mX.o,dU ht,Bool.false_and]);exact O7
theorem bF {w w':World} {k:Nat} {C:Array Value} {T:TypeId} (h:w.heap[k]? = some (.cells C T)) (hb:Below w.heap.size w w'):w'.heap[k]? = some (.cells C T):=by
 rw[hb.block k (gE h)];exact h
theorem bJ {w:World} {k:Nat} {C:Array Value} {T:TypeId} (h:w.heap[k]? = some (.cells C T)) (j:Nat) (v:Value):(w.setCell ⟨k,j,none⟩ v).heap[k]? = some (.cells (C.setIfInBounds j v) T):=by
 exact Pd
theorem dH {w:World} {k g:Nat} {C:Array Value} {T:TypeId} (h:w.heap[k]? = some (.cells C T)) (hne:k≠g) (j:Nat) (v:Value):(w.setCell ⟨g,j,none⟩ v).heap[k]? = some (.cells C T):=by
 rw[dN _ _ _ _ (show k≠g from hne)];exact h
theorem aA.row {kp:Nat} {w w':World} (h:aA kp w w') (k:Nat) (hk:w.heap.size≤k) (L:Array Value):aA kp w (w'.setRow k L):=
 ⟨h.os,h.tape,h.output,by have:=h.size;simpa [World.setRow]using this,fun j hj hne=>(gK _ _ _ _ ae).trans (h.block j hj hne)⟩
theorem aqI {w:World} {kp b o cap:Nat} {v:Value} {ts:List aw} (hk:w.heap[kp]? = some (.cells #[v] 111)) (hs:bA w bZ 4 (some ⟨b,o,none⟩) cap ts) (hp:0 < ts.length):b≠kp:=by
 intro e;obtain⟨b',o',e',-,hc⟩:=bA.cells hs Gj ah hp;simp only[Option.some.injEq,Addr.mk.injEq,and_true]at e';obtain⟨rfl,rfl⟩:=e';have h3:=hc 3 ah;subst e;rw[zI _ _ _ #[v] 111 (0,0) hk]at h3;have:(#[v]:Array Value)[o+(0*4+3)]? = none:=aB
 rw[this]at h3;exact absurd h3.symm (by simp[bZ])
theorem aqJ {ts:List aw} (h:0 < ts.length):ax ts=ts[0]:=by
 cases ts with
 | nil=>simp at h
 | cons t l=>rfl
theorem wF (kind:Int) (ts:List aw) (ed:pj ts) (kp:Nat) (w:World) (h:bH w kp ts) :
  Calls prog 89 #[.pointer (some ⟨kp,0,none⟩),.int .i64 kind] w fun e w'=>fN kp w eG (dJ kind ts) e w':=by
 have bm:=ed.pos;obtain⟨a,cap,Aw,hs,bO⟩:=h;obtain⟨b,o,rfl,bh,-⟩:=bA.cells hs Gj ah bm;have h:bH w kp ts:=⟨_,_,Aw,hs,bO⟩
 have rq:b < kp:=bO b o rfl;refine fQ Aw hs (aqI Aw hs bm) hs.len.1 ?_;intro HKP HS qJ hle;have kH:=hs.len.2.1;clear Aw hs;refine O8 ?_;intro hb0;have h0:=h.keep hb0;have c:=rF ts bm kp _ h0;have cf:=fun W hW=>Es ts bm kp W hW
 unfold eG at c;have mH:=C5 (ax ts);obtain⟨R,hR⟩:∃ R,R=dJ kind ts:=⟨_,rfl⟩
 rw[← hR];unfold dJ iy eY at hR;have hu:=underlying129;have K2:=Qh (dK w (.cells kB 129));have HE:=Qh (show(bZ (ax ts)).toArray=#[.int .i64 (ax ts).kind,.string ⟨(ax ts).text.toArray⟩,.int .i64 (ax ts).line,.int .i64 (ax ts).ak]from rfl);have hsz:(bZ (ax ts)).toArray.size=4:=rfl;have gC:=Qh hR;have HV:=Qh (show eG (ax ts)=.agg (bZ (ax ts)).toArray from rfl);clear hR;generalize Kj:(bZ (ax ts)).toArray=L at *;have dS:=Qh hb0;have H0:=Qh h0;have hk0:=h0.lt;have dG:=h.lt;clear hb0 h0 h Kj;go_enter func89,ntmps89
 go_wp2_with fail;refine aQ c ?_;intro w1 hb;have hb1:Below w1.heap.size w1 (w1.alloc (.cells L 129)):=(aC _ _).alloc af _;have HB:=Qh (aH (aH dS.o hb af) hb1 af);have H1:=Qh ((H0.o.keep hb).keep hb1);have ij:=aH (aH dS.o hb af) hb1 af;refine aY (bF HKP.o ij) (HS.o.keep ij af) (bF (bF K2.o hb) hb1) ?_;intro aqK Ae K2';have nM:w.heap.size < w1.heap.size:=(Array.getElem?_eq_some_iff.1 (bF K2.o hb)).1;have HL1:=Qh mH;clear c hb K2 H0 ij;go_upto_region 2 with (refine eX (Z:=kB) (cs:=L) 129 (.tmp 5) (.tmp 7) Ij Bk mH ?_)
 have b5:=ai.new w1 L 129;have f0:(w1.alloc (.cells L 129)).cell? ⟨w1.heap.size,0,none⟩=some (.int .i64 (ax ts).kind):=b5.cell 0 _ (by rw[HE.o];rfl);clear hb1;generalize hk5:w1.heap.size=k5 at *;generalize w1.alloc (.cells L 129)=W at *;have ir:=Qh b5;clear b5;by_cases hk:(ax ts).kind=kind∧kind≠0;case neg=>
  have dv:=Qh (show R=.bad (lM ts) (ax ts).line (ax ts).ak by rw[gC.o,if_neg hk]);have cF:=cf W H1.o;by_cases h1:(ax ts).kind=kind
  ·have h0:kind=0:=Classical.byContradiction fun h=>hk ⟨h1,h⟩
   subst h0;rw[h1]at f0;clear hk h1 mH;exact Hy cF
  ·have e1:=bN h1;generalize (ax ts).kind=K at *;clear hk mH;exact Hy cF
 case pos=>
  have dv:=Qh (show R=.ok (ax ts) ts.tail by rw[gC.o,if_pos hk]);obtain⟨h1,h2⟩:=hk;rw[h1]at f0;have Aw:=aqK.o;have YH:0 < ts.tail.length:=(ed.tail (by rw[h1];exact h2)).pos;rw[sZ]at YH;have Xv:¬ cap=1:=ae;have fp:W.cell? ⟨kp,0,none⟩=some (.slice (some ⟨b,o,none⟩) ts.length cap):=ai.cell ⟨_,Aw⟩ 0 _ rfl;have rp:=ai.free ⟨_,Aw⟩ 0;have Aj:(1:Int)≤ts.length:=ae;have agL:kp≠w.heap.size:=ae;have aqL:kp≠k5:=ae;have hw5:w.heap.size≠k5:=ae;refine aY (bJ Aw 0 (.slice (some ⟨b,o+4,none⟩) (ts.length - 1) (cap - 1))) (dH K2'.o (Ne.symm agL) 0 (.slice (some ⟨b,o+4,none⟩) (ts.length - 1) (cap - 1))) (ir.o.other (a:=⟨kp,0,none⟩) aqL (.slice (some ⟨b,o+4,none⟩) (ts.length - 1) (cap - 1))) ?_;intro H2 Z2 B5;have S2:=Qh ((Ae.o.P9 Gj 1 bm).of_block (w':=W.setCell ⟨kp,0,none⟩ (.slice (some ⟨b,o+4,none⟩) (ts.length - 1) (cap - 1))) fun b' o' e=>by
   simp only[Option.some.injEq,Addr.mk.injEq,and_true]at e;rw[← e.1];exact dN _ _ _ _ qJ.o)
  have ON:=Qh ((aA.of_below kp HB.o).set 0 (.slice (some ⟨b,o+4,none⟩) (ts.length - 1) (cap - 1)));clear Aw cf mH ed;go_upto_region 5 with fail
  clear fp rp f0;generalize W.setCell ⟨kp,0,none⟩ (.slice (some ⟨b,o+4,none⟩) (ts.length - 1) (cap - 1))=W2 at *;have b5:=B5.o;have bz:ai W2 w.heap.size kB:=⟨_,Z2.o⟩
  have kJ:L.all (·.oneCell')=true:=HL1.o;go_wp2_with (first|(refine fG b5 129 (.tmp 5) hu Lz ?_)|(refine iC (cs:=L) bz 129 (.tmp 4) (.tmp 26) Lz Bk kJ ?_))
  have hrun:=fo (bz.row L) 129 _ hu rfl Lz;refine bB (v:=.agg L) (by simp[results,results89,Act.put,asAddr,hrun]) rfl ?_;rw[dv.o];refine⟨by rw[HV.o],?_,some ⟨b,o+4,none⟩,cap - 1,?_,?_,fun b' o' e=>by simp only[Option.some.injEq,Addr.mk.injEq,and_true]at e;omega⟩
  ·exact ON.o.row _ af L
  ·rw[gK _ _ _ _ agL,H2.o,sZ];rfl
  ·have hs2:=S2.o;rw[List.drop_one]at hs2;exact hs2.of_block fun b' o' e=>by
    simp only[Option.some.injEq,Addr.mk.injEq,and_true]at e;rw[← e.1];exact gK _ _ _ _ ae
theorem mY {text:List UInt8} {ts:List aw} (h:dt text ts=true):(ax ts).kind≠0:=by
 unfold dt at h;simp only[uF,nJ,dZ]at h;omega
theorem YI {ts:List aw} (h:(ax ts).kind≠0):dJ (ax ts).kind ts=.ok (ax ts) ts.tail:=by
 unfold dJ;rw[if_pos ⟨rfl,h⟩]
theorem iT (text:List UInt8) (ts:List aw) (ed:pj ts) (kp:Nat) (w:World) (h:bH w kp ts) :
  Calls prog 88 #[.pointer (some ⟨kp,0,none⟩),.string ⟨text.toArray⟩] w fun e w'=>fN kp w eG (cj text ts) e w':=by
 have bm:=ed.pos;refine O8 ?_;intro hb0;have h0:=h.keep hb0;have cs:=GL text ts bm kp _ h0;have cf:=fun W hW=>Es ts bm kp W hW
 have cw:=fun W hW=>rF ts bm kp W hW
 have cn:=fun W hW=>wF (ax ts).kind ts ed kp W hW
 unfold eG at cw;have mH:=C5 (ax ts);obtain⟨R,hR⟩:∃ R,R=cj text ts:=⟨_,rfl⟩
 rw[← hR];unfold cj iy eY at hR;have GM:=Qh (fun h=>@mY text ts h);have hu:=underlying129;have K2:=Qh (dK w (.cells kB 129));have hsz:(bZ (ax ts)).toArray.size=4:=rfl;have gC:=Qh hR;have HV:=Qh (show eG (ax ts)=.agg (bZ (ax ts)).toArray from rfl);have Dq:∀ W,(Instr.field 129 (.agg (bZ (ax ts)).toArray) 0).run prog W=.ok (.int .i64 (ax ts).kind) W:=fun W=>pC _ _ _ _ W
 have Gp:=@YI ts;generalize dt text ts=S at *;clear hR;generalize Kj:(bZ (ax ts)).toArray=L at *;have dS:=Qh hb0;have H0:=Qh h0;have dG:=h.lt;have HSQ:=Qh Gp;clear hb0 h0 h Kj Gp;go_enter func88,ntmps88
 go_wp2_with fail;refine aQ cs ?_;intro w1 hb;refine aY (aH dS.o hb af) (H0.o.keep hb) (bF K2.o hb) ?_;intro HB H1 K1;clear cs hb K2 H0;cases S
 ·have dv:=Qh (show R=.bad (lM ts) (ax ts).line (ax ts).ak by rw[gC.o];rfl);have cF:=cf w1 H1.o;exact Hy cF
 ·have dv:=Qh (show R=.ok (ax ts) ts.tail by rw[gC.o];rfl);have cW:=cw w1 H1.o;have hk0:=GM.o rfl;go_wp2_with fail;refine pO cW ?_;intro w2 hb aM;have cN:=cn w2 (H1.o.keep hb);rw[HSQ.o hk0]at cN;have K3:=Qh (bF K1.o hb);clear hb cW;go_wp2_with fail;refine dF cN ?_;intro w3 ho hp;rw[HV.o];have hz:w3.heap[w.heap.size]? = some (.cells kB 129):=(ho.block _ (gE K3.o) cO).trans K3.o;have bz:ai w3 w.heap.size kB:=⟨_,hz⟩
  have HO:=Qh ((aA.of_below kp aM.o).trans ho);have HP:=Qh hp;clear ho hp cN hz;go_wp2_with (refine iC (cs:=L) bz 129 (.tmp 4) (.tmp 15) Lz Bk mH ?_)
  have hrun:=fo (bz.row L) 129 _ hu rfl Lz;refine bB (v:=.agg L) (by simp[results,results88,Act.put,asAddr,hrun]) rfl ?_;rw[dv.o];refine⟨by rw[HV.o],HO.o.row _ af L,HP.o.row dG L⟩
theorem agM (text:List UInt8) (ts:List aw) (ed:pj ts) (kp:Nat) (w:World) (h:bH w kp ts) :
  Calls prog 141 #[.pointer (some ⟨kp,0,none⟩),.string ⟨text.toArray⟩] w fun e w'=>fN kp w (fun b=>.bool b) (GN text ts) e w':=by
 have cs:=GL text ts ed.pos kp _ h;have cm:=fun W hW=>iT text ts ed kp W hW
 obtain⟨R,hR⟩:∃ R,R=GN text ts:=⟨_,rfl⟩
 rw[← hR];unfold GN at hR;unfold cj at cm;have gC:=Qh hR;generalize dt text ts=S at *;have H0:=Qh h;clear hR h;go_enter func141,ntmps141
 go_wp2_with fail;refine aQ cs ?_;intro w1 hb;have HB:=Qh hb;have H1:=Qh (H0.o.keep hb);clear cs hb H0;cases S
 ·have dv:=Qh (show R=.ok false ts by rw[gC.o];rfl);go_wp2_with fail;go_ret;rw[dv.o];exact⟨rfl,aA.of_below kp HB.o,H1.o⟩
 ·have dv:=Qh (show R=.ok true ts.tail by rw[gC.o];rfl);have cM:=cm w1 H1.o;simp only[kG]at cM;go_wp2_with fail;refine dF cM ?_;intro w2 ho hp;have HO:=Qh ((aA.of_below kp HB.o).trans ho);have HP:=Qh hp;clear cM ho hp;exact UO
theorem agN (ts:List aw) (ed:0 < ts.length) (kp:Nat) (w:World) (h:bH w kp ts) :
  Calls prog 90 #[.pointer (some ⟨kp,0,none⟩)] w fun e w'=>e=.returned (.bool (p8 ts))∧Below w.heap.size w w':=by
 have c:=rF ts ed kp w h;unfold eG at c;have mH:=C5 (ax ts);obtain⟨B,hB⟩:∃ B,B=p8 ts:=⟨_,rfl⟩
 rw[← hB];unfold p8 at hB;generalize ax ts=t at *;have HE:=Qh (show(bZ t).toArray=#[.int .i64 t.kind,.string ⟨t.text.toArray⟩,.int .i64 t.line,.int .i64 t.ak]from rfl);have hsz:(bZ t).toArray.size=4:=rfl;have mX:=Qh hB;clear hB;generalize (bZ t).toArray=L at *;go_enter func90,ntmps90
 go_wp2_with fail;refine aQ c ?_;intro w1 hb;have HB:=Qh (hb.alloc hb.size (.cells L 129));clear c hb h;go_upto_region 2 with (refine eX (Z:=kB) (cs:=L) 129 (.tmp 3) (.tmp 5) Ij Bk mH ?_)
 have b5:=ai.new w1 L 129;refine abw ?_;intro f0 f1;generalize w1.alloc (.cells L 129)=W at *;clear b5;by_cases hm:t.text∈Ay
 ·have HV:=Qh (show B=false by rw[mX.o,fy hm];rfl);unfold Ay at hm;simp only[nL,Fv,or_false]at hm;rcases hm with hm|hm|hm|hm|hm|hm
  all_goals
   rw[hm]at f1;exact O7
 ·have HV:=Qh (show B=(t.kind == 1)by rw[mX.o,dU hm];rfl);unfold Ay at hm;simp only[nL,Fv,or_false,not_or]at hm;obtain⟨h1,h2,h3,h4,h5,h6⟩:=hm;have e1:=bN h1;have e2:=bN h2;have e3:=bN h3;have e4:=bN h4;have e5:=bN h5;have e6:=bN h6;exact O7
theorem YJ {ts:List aw} (h:p8 ts=true):(ax ts).kind=1:=by
 unfold p8 at h;simp only[uF,dZ]at h;exact h.2
theorem wG (ts:List aw) (ed:pj ts) (hlen:(ax ts).text.length≤9223372036854775807) (kp:Nat) (w:World) (h:bH w kp ts) :
  Calls prog 91 #[.pointer (some ⟨kp,0,none⟩)] w fun e w'=>fN kp w (fun s=>.string ⟨s.toArray⟩) (ee ts) e w':=by
 have bm:=ed.pos;have cd:=agN ts bm kp _ h;have cf:=fun W hW=>Es ts bm kp W hW
 have cg:=fun W hW=>GK 11 ts bm kp W hW
 have cw:=fun W hW=>rF ts bm kp W hW
 have cn:=fun W hW=>wF 1 ts ed kp W hW
 unfold eG bZ at cw;obtain⟨R,hR⟩:∃ R,R=ee ts:=⟨_,rfl⟩
 rw[← hR];unfold ee iy eY at hR;have GM:=Qh (fun h=>@YJ ts h);have gC:=Qh hR;have jk:=tU;have sQ:=Qh (show(ax ts).kind=1→dJ 1 ts=.ok (ax ts) ts.tail from fun h=>PQ);generalize p8 ts=S at *;have H0:=Qh h;clear hR h;go_enter func91,ntmps91
 go_wp2_with fail;refine aQ cd ?_;intro w1 hb;have HB:=Qh hb;have H1:=Qh (H0.o.keep hb);clear cd hb H0;cases S
 ·have dv:=Qh (show R=.bad (lM ts) (ax ts).line (ax ts).ak by rw[gC.o];rfl);have cF:=cf w1 H1.o;exact Hy cF
 ·have cW:=cw w1 H1.o;have nM:=GM.o rfl;by_cases hl:(ax ts).text.length≤64
  ·have dv:=Qh (show R=.ok (ax ts).text ts.tail by rw[gC.o];simp[hl]);have Cp:¬ ((64:Int) < (ax ts).text.length):=ae;go_wp2_with fail;refine pO cW ?_;intro w2 hb aM;have cN:=cn w2 (H1.o.keep hb);rw[sQ.o nM]at cN;unfold fN eG bZ at cN;clear hb cW;go_wp2_with fail;refine dF cN ?_;intro w3 ho hp;have HO:=Qh ((aA.of_below kp aM.o).trans ho);have HP:=Qh hp;clear cN ho hp;exact UO
  ·have dv:=Qh (show R=.bad 11 (ax ts).line (ax ts).ak by rw[gC.o];simp[hl]);have Cp:(64:Int) < (ax ts).text.length:=ae;go_wp2_with fail;refine pO cW ?_;intro w2 hb aM;have cG:=cg w2 (H1.o.keep hb);clear hb cW;go_wp2_with fail;refine aQ cG ?_;intro w3 hb;clear cG;exact CO (aA.of_below kp (aH aM.o hb af))
end Go.Proofs.YtfflljgnpfldfaaGreatDoor
