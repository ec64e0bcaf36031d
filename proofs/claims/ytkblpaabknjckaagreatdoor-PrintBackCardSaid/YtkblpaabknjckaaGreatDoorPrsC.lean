/-
  The parser's steps at words: contracts.
-/
import Derived.Test.YtkblpaabknjckaaGreatDoorBaseD
import Derived.Test.YtkblpaabknjckaaGreatDoorLexG
import Derived.Test.YtkblpaabknjckaaGreatDoorAppC
import Derived.WalkLawsBesides
set_option maxHeartbeats 128000000
set_option linter.unusedVariables false
namespace Go.Proofs.YtkblpaabknjckaaGreatDoor
open Go.RowKit
inductive PR (α:Type) where
 | ok (x:α) (ts:List TokD)
 | bad (no line col:Int)
def PR.bind {α β:Type} (r:PR α) (f:α→List TokD→PR β):PR β:=match r with
 | .ok x ts=>f x ts
 | .bad n l c=>.bad n l c
def headT:List TokD→TokD
 | []=>⟨0,[],0,0⟩
 | t::_=>t
def wrongR {α:Type} (no:Int) (ts:List TokD):PR α:=.bad no (headT ts).line (headT ts).col
def formN (ts:List TokD):Int:=if (headT ts).kind=0 then 2 else 4
def formR {α:Type} (ts:List TokD):PR α:=wrongR (formN ts) ts
def nextR (kind:Int) (ts:List TokD):PR TokD:=if (headT ts).kind=kind∧kind≠0 then .ok (headT ts) ts.tail else formR ts
def seesB (text:List UInt8) (ts:List TokD):Bool:=decide ((headT ts).text=text) && ((headT ts).kind == 1 || (headT ts).kind == 4)
def mustR (text:List UInt8) (ts:List TokD):PR TokD:=if seesB text ts then .ok (headT ts) ts.tail else formR ts
def mayR (text:List UInt8) (ts:List TokD):PR Bool:=if seesB text ts then .ok true ts.tail else .ok false ts
def sixW:List (List UInt8):=[[86,69,82,83,73,79,78],[66,85,95],[66,79,95],[83,71,95],[86,65,76,95],[67,77,95]]
def namedB (ts:List TokD):Bool:=!decide ((headT ts).text∈sixW) && (headT ts).kind == 1
def nameR (ts:List TokD):PR (List UInt8):=if namedB ts then (if (headT ts).text.length≤64 then .ok (headT ts).text ts.tail else wrongR 11 ts) else formR ts
def TsOK (ts:List TokD):Prop:=∃ l e,ts=l++[e]∧e.kind=0
theorem TsOK.pos {ts:List TokD} (h:TsOK ts):0 < ts.length:=by
 obtain⟨l,e,rfl,-⟩:=h;simp
theorem TsOK.tail {ts:List TokD} (h:TsOK ts) (hk:(headT ts).kind≠0):TsOK ts.tail:=by
 obtain⟨l,e,rfl,he⟩:=h;cases l with
 | nil=>exact absurd he hk
 | cons x l=>exact⟨l,e,rfl,he⟩
def PAt (w:World) (kp:Nat) (ts:List TokD):Prop:=∃ a cap,w.heap[kp]? = some (.cells #[.slice a ts.length cap] 61)∧SlOf w enTok 4 a cap ts∧∀ b o,a=some ⟨b,o,none⟩→b < kp
def tkV (t:TokD):Value:=.agg (enTok t).toArray
theorem PAt.keep {w w':World} {kp:Nat} {ts:List TokD} (h:PAt w kp ts) (hb:Below w.heap.size w w'):PAt w' kp ts:=by
 obtain⟨a,cap,h1,h2,h3⟩:=h;exact⟨a,cap,(hb.block kp (gE h1)).trans h1,h2.keep hb lrf,h3⟩
theorem PAt.other {w w':World} {kp:Nat} {ts:List TokD} (h:PAt w kp ts) (hb:∀ b,b≤kp→w'.heap[b]? = w.heap[b]?):PAt w' kp ts:=by
 obtain⟨a,cap,h1,h2,h3⟩:=h;exact⟨a,cap,(hb kp lrf).trans h1,h2.of_block fun b o e=>hb b (Nat.le_of_lt (h3 b o e)),h3⟩
theorem PAt.row {w:World} {kp:Nat} {ts:List TokD} (h:PAt w kp ts) {k:Nat} (hk:kp < k) (L:Array Value):PAt (w.setRow k L) kp ts:=h.other fun b hb=>heap_setRow_other _ _ _ _ (by omega)
theorem PAt.set {w:World} {kp:Nat} {ts:List TokD} (h:PAt w kp ts) {k:Nat} (hk:kp < k) (j:Nat) (v:Value):PAt (w.setCell ⟨k,j,none⟩ v) kp ts:=h.other fun b hb=>Below.heap_setCell _ _ _ _ (show b≠k by omega)
theorem PAt.lt {w:World} {kp:Nat} {ts:List TokD} (h:PAt w kp ts):kp < w.heap.size:=by
 obtain⟨a,cap,h1,-⟩:=h;exact(gE h1)
theorem SlOf.sufT {α:Type} {w:World} {en:α→List Value} {size b o cap:Nat} {xs:List α} (h:SlOf w en size (some ⟨b,o,none⟩) cap xs) (hen:∀ x,(en x).length=size) (k:Nat) (hk:k≤xs.length):SlOf w en size (some ⟨b,o+k*size,none⟩) (cap - k) (xs.drop k):=by
 have hle:=h.le;refine⟨flatMap_length hen _,?_,?_,(fun e=>by cases e),fun j hj=>?_⟩
 ·rw[List.length_drop];omega
 ·have:=h.max;omega
 ·rw[flatMap_length hen,List.length_drop]at hj;have hj2:k*size+j < (xs.flatMap en).length:=by
   rw[flatMap_length hen];have:(xs.length - k)*size+k*size=xs.length*size:=by rw[← Nat.add_mul];congr 1;omega
   omega
  obtain⟨b',o',e,h1⟩:=Sl.at' h (k*size+j) hj2;cases e
  refine⟨b,o+k*size,rfl,?_⟩;rw[Nat.add_assoc,h1];have hsplit:xs.flatMap en=(xs.take k).flatMap en++(xs.drop k).flatMap en:=(by rw[← List.flatMap_append,List.take_append_drop]);have hl:((xs.take k).flatMap en).length=k*size:=(by rw[flatMap_length hen,List.length_take,Nat.min_eq_left hk]);rw[hsplit,List.getElem?_append_right (by omega),hl]
  congr 1
  omega
abbrev Only (kp:Nat) (w w':World):Prop:=w.grownBy w' (some kp)
theorem Only.of_below {w w':World} (kp:Nat) (h:Below w.heap.size w w'):Only kp w w':=⟨h.os,h.tape,h.output,h.size,fun k hk _=>h.block k hk⟩
theorem Only.trans {kp:Nat} {w w' w'':World} (h:Only kp w w') (h':Only kp w' w''):Only kp w w'':=
 ⟨h'.os.trans h.os,h'.tape.trans h.tape,h'.output.trans h.output,Nat.le_trans h.size h'.size,fun k hk hne=>(h'.block k (Nat.lt_of_lt_of_le hk h.size) hne).trans (h.block k hk hne)⟩
theorem Only.set {kp:Nat} {w w':World} (h:Only kp w w') (j:Nat) (v:Value):Only kp w (w'.setCell ⟨kp,j,none⟩ v):=
 h.trans ⟨rfl,rfl,rfl,by simp[World.setCell],fun k _ hne=>Below.heap_setCell _ _ _ _ (fun e=>hne (by rw[e]))⟩
theorem Only.below {kp B:Nat} {w0 w w':World} (h:Below B w0 w) (ho:Only kp w w') (hB:B≤w0.heap.size) (hk:B≤kp):Below B w0 w':=h.grown ho (Nat.le_trans hB h.size) (fun k e=>by cases e;exact hk)
def PPost {α:Type} (kp:Nat) (w:World) (V:α→Value) (R:PR α) (e:Ending) (w':World):Prop:=match R with
 | .ok x ts=>e=.returned (V x)∧Only kp w w'∧PAt w' kp ts
 | .bad no l c=>e=.panicked [{ v:=faultV no l c,recovered:=false }]∧Only kp w w'
open Go.Proofs.Tryz
abbrev zeroTok:Array Value:=#[.int .i64 0,.string ⟨#[]⟩,.int .i64 0,.int .i64 0]
theorem tok_zero:(prog.info? 97).map (fun i=>(i.zero,i.size))=some (some (.agg zeroTok),4):=by kernel_rfl
theorem tok_size:(prog.info? 97).map (·.size)=some 4:=by kernel_rfl
theorem tok_one (t:TokD):(enTok t).toArray.all (·.oneCell')=true:=by simp[enTok,Value.oneCell']
theorem tk_f0 (a b c d:Value) (w:World):(Instr.field 97 (.agg #[a,b,c,d]) 0).run prog w=.ok a w:=by kernel_rfl
theorem tk_f1 (a b c d:Value) (w:World):(Instr.field 97 (.agg #[a,b,c,d]) 1).run prog w=.ok b w:=by kernel_rfl
theorem tk_f2 (a b c d:Value) (w:World):(Instr.field 97 (.agg #[a,b,c,d]) 2).run prog w=.ok (.agg #[c,d]) w:=by kernel_rfl
theorem now_any (ts:List TokD) (hts:0 < ts.length) (kp:Nat) (w:World) (h:PAt w kp ts) :
  Calls prog 46 #[.pointer (some ⟨kp,0,none⟩)] w fun e w'=>e=.returned (tkV (headT ts))∧Below w.heap.size w w':=by
 obtain⟨a,cap,hk,hs,-⟩:=h;obtain⟨b,o,rfl,hb,hc⟩:=SlOf.cells hs enTok_len (by decide) hts;have hb1:Below w.heap.size w (w.alloc (.cells zeroTok 97)):=(Below.refl _ _).alloc lrf _;have f0:(w.alloc (.cells zeroTok 97)).cell? ⟨kp,0,none⟩=some (.slice (some ⟨b,o,none⟩) ts.length cap):=cell_keep' (Blk.cell ⟨_,hk⟩ 0 _ rfl) hb1;have hrg:(w.alloc (.cells zeroTok 97)).rangeAt b o (enTok ts[0]):=fun j v hv=>by
  have hj:j < 4:=(by have:=(List.getElem?_eq_some_iff.1 hv).1;rwa [enTok_len]at this);have:=hc j hj;rw[Nat.zero_mul,Nat.zero_add]at this;exact cell_keep' (this.trans hv) hb1
 have hH:headT ts=ts[0]:=by
  cases ts with
  | nil=>simp at hts
  | cons t l=>rfl
 rw[hH];have hn:(0:Int) < ts.length:=(by omega);have hn':0 < ts.length:=hts;have b2:Blk (w.alloc (.cells zeroTok 97)) w.heap.size zeroTok:=Blk.new w zeroTok _;have hu:=underlying97;obtain⟨L,hL⟩:∃ L,L=enTok ts[0]:=⟨_,rfl⟩
 have hL4:L.length=4:=(by rw[hL];rfl);have hL1:L.toArray.all (·.oneCell')=true:=(by rw[hL];exact tok_one _);have hsz:(prog.info? 97).map (·.size)=some L.length:=(by rw[hL4];exact tok_size);have hsA:L.toArray.size=4:=(by simpa using hL4);unfold tkV;rw[← hL]at hrg ⊢;have HB:=Qh hb1;clear hs hc hL hH hk hb1;go_enter func46,ntmps46
 go_wp2_with (first|(refine wpList_load_mid rfl 97 (.tmp 7) rfl b o rfl L _ hrg hu rfl hsz ?_)|(refine wpList_storeS (cs:=L.toArray) b2 97 (.tmp 2) (.tmp 8) (by rw[hsA];exact tok_size) (by rw[hsA];rfl) hL1 ?_))
 have hrun:=run_loadS (b2.row L.toArray) 97 _ hu rfl (by rw[hsA];exact tok_size);refine bodyPost_ret (v:=.agg L.toArray) (by simp[results,results46,Act.put,asAddr,hrun]) rfl ⟨rfl,below_row HB.out lrf _⟩
set_option maxRecDepth 100000 in theorem wrong_any (no : Int) (ts : List TokD) (hts : 0 < ts.length) (kp : Nat) (w : World) (h : PAt w kp ts) :
  Calls prog 43 #[.pointer (some ⟨kp,0,none⟩),.int .i64 no] w fun e w'=>e=.panicked [{ v:=faultV no (headT ts).line (headT ts).col,recovered:=false }]∧Below w.heap.size w w':=by
 have c:=now_any ts hts kp w h;unfold tkV enTok at c;generalize headT ts=t at *;go_enter func43,ntmps43
 go_wp2_with fail;(with_reducible refine c.mono ?_);rintro e w1 ⟨rfl,hb⟩;have HB:=Qh hb;clear c hb;have t2:=tk_f2;go_wp2_with fail;exact⟨rfl,rfl,HB.out.alloc HB.out.size _⟩
theorem ba_eq (a b:List UInt8):((⟨a.toArray⟩:ByteArray)=⟨b.toArray⟩)↔a=b:=⟨fun h=>by simpa using congrArg (fun x:ByteArray=>x.data.toList) h,fun h=>by rw[h]⟩
set_option maxRecDepth 100000 in theorem form_any (ts : List TokD) (hts : 0 < ts.length) (kp : Nat) (w : World) (h : PAt w kp ts) :
  Calls prog 47 #[.pointer (some ⟨kp,0,none⟩)] w fun e w'=>e=.panicked [{ v:=faultV (formN ts) (headT ts).line (headT ts).col,recovered:=false }]∧Below w.heap.size w w':=by
 have c:=now_any ts hts kp w h;have cw:=fun no W hW=>wrong_any no ts hts kp W hW
 unfold tkV enTok at c;have t0:=tk_f0;have HH:=Qh h;obtain⟨NN,hNN⟩:∃ NN,NN=formN ts:=⟨_,rfl⟩
 rw[← hNN];unfold formN at hNN;generalize headT ts=t at *;have HN:=Qh hNN;clear hNN;go_enter func47,ntmps47
 go_wp2_with fail;(with_reducible refine c.mono ?_);rintro e w1 ⟨rfl,hb⟩;have HB:=Qh hb;have H1:=Qh (HH.out.keep hb);clear c hb h;by_cases hk:t.kind=0
 ·have HV:=Qh (show NN=2 by rw[HN.out,if_pos hk]);go_wp2_with fail;with_reducible refine(cw 2 _ H1.out).mono ?_
  rintro e w2 ⟨rfl,hb⟩;have HB2:=Qh (bstep HB.out hb lrf);clear hb;go_wp2_with fail;exact⟨rfl,by rw[HV.out],HB2.out⟩
 ·have HV:=Qh (show NN=4 by rw[HN.out,if_neg hk]);go_wp2_with fail;with_reducible refine(cw 4 _ H1.out).mono ?_
  rintro e w2 ⟨rfl,hb⟩;have HB2:=Qh (bstep HB.out hb lrf);clear hb;go_wp2_with fail;exact⟨rfl,by rw[HV.out],HB2.out⟩
set_option maxRecDepth 100000 in theorem sees_any (text : List UInt8) (ts : List TokD) (hts : 0 < ts.length) (kp : Nat) (w : World) (h : PAt w kp ts) :
  Calls prog 38 #[.pointer (some ⟨kp,0,none⟩),.string ⟨text.toArray⟩] w fun e w'=>e=.returned (.bool (seesB text ts))∧Below w.heap.size w w':=by
 have c:=now_any ts hts kp w h;unfold tkV at c;have hL1:=tok_one (headT ts);obtain⟨B,hB⟩:∃ B,B=seesB text ts:=⟨_,rfl⟩
 rw[← hB];unfold seesB at hB;have hu:=underlying97;generalize headT ts=t at *;have HE:=Qh (show(enTok t).toArray=#[.int .i64 t.kind,.string ⟨t.text.toArray⟩,.int .i64 t.line,.int .i64 t.col]from rfl);have hsz:(enTok t).toArray.size=4:=rfl;have HBV:=Qh hB;clear hB;generalize (enTok t).toArray=L at *;go_enter func38,ntmps38
 go_wp2_with fail;(with_reducible refine c.mono ?_);rintro e w1 ⟨rfl,hb⟩;have HB:=Qh (hb.alloc hb.size (.cells L 97));clear c hb h;go_upto_region 2 with (refine wpList_newS (Z:=zeroTok) (cs:=L) 97 (.tmp 5) (.tmp 7) (by rw[hsz];exact tok_zero) (by rw[hsz];rfl) hL1 ?_)
 have b5:=Blk.new w1 L 97;have f0:(w1.alloc (.cells L 97)).cell? ⟨w1.heap.size,0,none⟩=some (.int .i64 t.kind):=b5.cell 0 _ (by rw[HE.out];rfl);have f1:(w1.alloc (.cells L 97)).cell? ⟨w1.heap.size,1,none⟩=some (.string ⟨t.text.toArray⟩):=b5.cell 1 _ (by rw[HE.out];rfl);generalize w1.alloc (.cells L 97)=W at *;have hq:=ba_eq t.text text;have HQ:=Qh hq;clear hq b5;generalize t.kind=K at *;by_cases hx:(⟨t.text.toArray⟩:ByteArray)=⟨text.toArray⟩
 ·have ht:t.text=text:=HQ.out.1 hx;rw[hx]at f1;by_cases h1:K=1
  ·subst h1;go_wp2_with fail;go_ret;exact⟨by rw[HBV.out,decide_eq_true ht];rfl,HB.out⟩
  ·by_cases h4:K=4
   ·subst h4;go_wp2_with fail;go_ret;exact⟨by rw[HBV.out,decide_eq_true ht];rfl,HB.out⟩
   ·have HV:=Qh (show B=false by rw[HBV.out,bN h1,bN h4,Bool.or_false,Bool.and_false]);have e1:=bN h1;have e4:=bN h4;go_wp2_with fail;go_ret;exact⟨by rw[HV.out];rfl,HB.out⟩
 ·have ht:¬ t.text=text:=fun e=>hx (HQ.out.2 e)
  have ex:=bN ht;have HV:=Qh (show B=false by rw[HBV.out,decide_eq_false ht,Bool.false_and]);go_wp2_with fail;go_ret;exact⟨by rw[HV.out];rfl,HB.out⟩
theorem kind_at {w w':World} {k:Nat} {C:Array Value} {T:TypeId} (h:w.heap[k]? = some (.cells C T)) (hb:Below w.heap.size w w'):w'.heap[k]? = some (.cells C T):=by
 rw[hb.block k (gE h)];exact h
theorem set_at {w:World} {k:Nat} {C:Array Value} {T:TypeId} (h:w.heap[k]? = some (.cells C T)) (j:Nat) (v:Value):(w.setCell ⟨k,j,none⟩ v).heap[k]? = some (.cells (C.setIfInBounds j v) T):=by
 simp[World.setCell,Array.getElem?_modify,h]
theorem set_ne {w:World} {k g:Nat} {C:Array Value} {T:TypeId} (h:w.heap[k]? = some (.cells C T)) (hne:k≠g) (j:Nat) (v:Value):(w.setCell ⟨g,j,none⟩ v).heap[k]? = some (.cells C T):=by
 rw[Below.heap_setCell _ _ _ _ (show k≠g from hne)];exact h
theorem Only.row {kp:Nat} {w w':World} (h:Only kp w w') (k:Nat) (hk:w.heap.size≤k) (L:Array Value):Only kp w (w'.setRow k L):=
 ⟨h.os,h.tape,h.output,by have:=h.size;simpa [World.setRow]using this,fun j hj hne=>(heap_setRow_other _ _ _ _ (by omega)).trans (h.block j hj hne)⟩
theorem tok_ne {w:World} {kp b o cap:Nat} {v:Value} {ts:List TokD} (hk:w.heap[kp]? = some (.cells #[v] 61)) (hs:SlOf w enTok 4 (some ⟨b,o,none⟩) cap ts) (hp:0 < ts.length):b≠kp:=by
 intro e;obtain⟨b',o',e',-,hc⟩:=SlOf.cells hs enTok_len (by decide) hp;simp only[Option.some.injEq,Addr.mk.injEq,and_true]at e';obtain⟨rfl,rfl⟩:=e';have h3:=hc 3 (by decide);subst e;rw[cell_of_row _ _ _ #[v] 61 (0,0) hk]at h3;have:(#[v]:Array Value)[o+(0*4+3)]? = none:=by simp
 rw[this]at h3;exact absurd h3.symm (by simp[enTok])
theorem headT_get {ts:List TokD} (h:0 < ts.length):headT ts=ts[0]:=by
 cases ts with
 | nil=>simp at h
 | cons t l=>rfl
set_option maxRecDepth 100000 in theorem next_any (kind : Int) (ts : List TokD) (hts : TsOK ts) (kp : Nat) (w : World) (h : PAt w kp ts) :
  Calls prog 40 #[.pointer (some ⟨kp,0,none⟩),.int .i64 kind] w fun e w'=>PPost kp w tkV (nextR kind ts) e w':=by
 have hpos:=hts.pos;obtain⟨a,cap,hkp,hs,hbk⟩:=h;obtain⟨b,o,rfl,hbw,-⟩:=SlOf.cells hs enTok_len (by decide) hpos;have h:PAt w kp ts:=⟨_,_,hkp,hs,hbk⟩
 have hbk2:b < kp:=hbk b o rfl;have HKP:=Qh hkp;have HS:=Qh hs;have HNE:=Qh (tok_ne hkp hs hpos);have hle:=hs.len.1;have hln:=hs.len.2.1;clear hkp hs;have hb0:Below w.heap.size w (w.alloc (.cells zeroTok 97)):=(Below.refl _ _).alloc lrf _;have h0:=h.keep hb0;have c:=now_any ts hpos kp _ h0;have cf:=fun W hW=>form_any ts hpos kp W hW
 unfold tkV at c;have hL1:=tok_one (headT ts);obtain⟨R,hR⟩:∃ R,R=nextR kind ts:=⟨_,rfl⟩
 rw[← hR];unfold nextR formR wrongR at hR;have hu:=underlying97;have K2:=Qh (heap_alloc_new w (.cells zeroTok 97));have HE:=Qh (show(enTok (headT ts)).toArray=#[.int .i64 (headT ts).kind,.string ⟨(headT ts).text.toArray⟩,.int .i64 (headT ts).line,.int .i64 (headT ts).col]from rfl);have hsz:(enTok (headT ts)).toArray.size=4:=rfl;have HRV:=Qh hR;have HV:=Qh (show tkV (headT ts)=.agg (enTok (headT ts)).toArray from rfl);clear hR;generalize hLL:(enTok (headT ts)).toArray=L at *;have HB0:=Qh hb0;have H0:=Qh h0;have hk0:=h0.lt;have hkw:=h.lt;clear hb0 h0 h hLL;go_enter func40,ntmps40
 go_wp2_with fail;(with_reducible refine c.mono ?_);rintro e w1 ⟨rfl,hb⟩;have hb1:Below w1.heap.size w1 (w1.alloc (.cells L 97)):=(Below.refl _ _).alloc lrf _;have HB:=Qh (bstep (bstep HB0.out hb lrf) hb1 lrf);have H1:=Qh ((H0.out.keep hb).keep hb1);have hkk:=bstep (bstep HB0.out hb lrf) hb1 lrf;have HKP1:=Qh (kind_at HKP.out hkk);have HS1:=Qh (HS.out.keep hkk lrf);have K2':=Qh (kind_at (kind_at K2.out hb) hb1);have hk1:w.heap.size < w1.heap.size:=(Array.getElem?_eq_some_iff.1 (kind_at K2.out hb)).1;have HL1:=Qh hL1;clear c hb K2 H0 hkk;go_upto_region 2 with (refine wpList_newS (Z:=zeroTok) (cs:=L) 97 (.tmp 5) (.tmp 7) (by rw[hsz];exact tok_zero) (by rw[hsz];rfl) hL1 ?_)
 have b5:=Blk.new w1 L 97;have f0:(w1.alloc (.cells L 97)).cell? ⟨w1.heap.size,0,none⟩=some (.int .i64 (headT ts).kind):=b5.cell 0 _ (by rw[HE.out];rfl);clear hb1;generalize hk5:w1.heap.size=k5 at *;generalize w1.alloc (.cells L 97)=W at *;have HB5:=Qh b5;clear b5;by_cases hk:(headT ts).kind=kind∧kind≠0;case neg=>
  have HVR:=Qh (show R=.bad (formN ts) (headT ts).line (headT ts).col by rw[HRV.out,if_neg hk]);have cF:=cf W H1.out;by_cases h1:(headT ts).kind=kind
  ·have h0:kind=0:=Classical.byContradiction fun h=>hk ⟨h1,h⟩
   subst h0;rw[h1]at f0;clear hk h1 hL1;go_wp2_with fail;(with_reducible refine cF.mono ?_);rintro e w2 ⟨rfl,hb⟩;have HB2:=Qh (Only.of_below kp (bstep HB.out hb lrf));clear hb cF;go_wp2_with fail;exact⟨rfl,by rw[HVR.out];exact⟨rfl,HB2.out⟩⟩
  ·have e1:=bN h1;generalize (headT ts).kind=K at *;clear hk hL1;go_wp2_with fail;(with_reducible refine cF.mono ?_);rintro e w2 ⟨rfl,hb⟩;have HB2:=Qh (Only.of_below kp (bstep HB.out hb lrf));clear hb cF;go_wp2_with fail;exact⟨rfl,by rw[HVR.out];exact⟨rfl,HB2.out⟩⟩
 case pos=>
  have HVR:=Qh (show R=.ok (headT ts) ts.tail by rw[HRV.out,if_pos hk]);obtain⟨h1,h2⟩:=hk;rw[h1]at f0;have hkp:=HKP1.out;have ht2:0 < ts.tail.length:=(hts.tail (by rw[h1];exact h2)).pos;rw[List.length_tail]at ht2;have hcap:¬ cap=1:=(by omega);have fp:W.cell? ⟨kp,0,none⟩=some (.slice (some ⟨b,o,none⟩) ts.length cap):=Blk.cell ⟨_,hkp⟩ 0 _ rfl;have rp:=Blk.free ⟨_,hkp⟩ 0;have hi1:(1:Int)≤ts.length:=(by omega);have hkne:kp≠w.heap.size:=(by omega);have hk5n:kp≠k5:=(by omega);have hw5:w.heap.size≠k5:=(by omega);have H2:=Qh (set_at hkp 0 (.slice (some ⟨b,o+4,none⟩) (ts.length - 1) (cap - 1)));have Z2:=Qh (set_ne K2'.out (Ne.symm hkne) 0 (.slice (some ⟨b,o+4,none⟩) (ts.length - 1) (cap - 1)));have B5:=Qh (HB5.out.other (a:=⟨kp,0,none⟩) hk5n (.slice (some ⟨b,o+4,none⟩) (ts.length - 1) (cap - 1)));have S2:=Qh ((HS1.out.sufT enTok_len 1 hpos).of_block (w':=W.setCell ⟨kp,0,none⟩ (.slice (some ⟨b,o+4,none⟩) (ts.length - 1) (cap - 1))) fun b' o' e=>by
   simp only[Option.some.injEq,Addr.mk.injEq,and_true]at e;rw[← e.1];exact Below.heap_setCell _ _ _ _ HNE.out)
  have ON:=Qh ((Only.of_below kp HB.out).set 0 (.slice (some ⟨b,o+4,none⟩) (ts.length - 1) (cap - 1)));clear hkp cf hL1 hts;go_upto_region 5 with fail
  clear fp rp f0;generalize W.setCell ⟨kp,0,none⟩ (.slice (some ⟨b,o+4,none⟩) (ts.length - 1) (cap - 1))=W2 at *;have b5:=B5.out;have bz:Blk W2 w.heap.size zeroTok:=⟨_,Z2.out⟩
  have hl1:L.all (·.oneCell')=true:=HL1.out;go_wp2_with (first|(refine wpList_loadS b5 97 (.tmp 5) hu (by rw[hsz];exact tok_size) ?_)|(refine wpList_storeS (cs:=L) bz 97 (.tmp 4) (.tmp 26) (by rw[hsz];exact tok_size) (by rw[hsz];rfl) hl1 ?_))
  have hrun:=run_loadS (bz.row L) 97 _ hu rfl (by rw[hsz];exact tok_size);refine bodyPost_ret (v:=.agg L) (by simp[results,results40,Act.put,asAddr,hrun]) rfl ?_;rw[HVR.out];refine⟨by rw[HV.out],?_,some ⟨b,o+4,none⟩,cap - 1,?_,?_,fun b' o' e=>by simp only[Option.some.injEq,Addr.mk.injEq,and_true]at e;omega⟩
  ·exact ON.out.row _ lrf L
  ·rw[heap_setRow_other _ _ _ _ hkne,H2.out,List.length_tail];rfl
  ·have hs2:=S2.out;rw[List.drop_one]at hs2;exact hs2.of_block fun b' o' e=>by
    simp only[Option.some.injEq,Addr.mk.injEq,and_true]at e;rw[← e.1];exact heap_setRow_other _ _ _ _ (by omega)
theorem sees_kind {text:List UInt8} {ts:List TokD} (h:seesB text ts=true):(headT ts).kind≠0:=by
 unfold seesB at h;simp only[Bool.and_eq_true,Bool.or_eq_true,beq_iff_eq]at h;omega
theorem next_self {ts:List TokD} (h:(headT ts).kind≠0):nextR (headT ts).kind ts=.ok (headT ts) ts.tail:=by
 unfold nextR;rw[if_pos ⟨rfl,h⟩]
set_option maxRecDepth 100000 in theorem must_any (text : List UInt8) (ts : List TokD) (hts : TsOK ts) (kp : Nat) (w : World) (h : PAt w kp ts) :
  Calls prog 39 #[.pointer (some ⟨kp,0,none⟩),.string ⟨text.toArray⟩] w fun e w'=>PPost kp w tkV (mustR text ts) e w':=by
 have hpos:=hts.pos;have hb0:Below w.heap.size w (w.alloc (.cells zeroTok 97)):=(Below.refl _ _).alloc lrf _;have h0:=h.keep hb0;have cs:=sees_any text ts hpos kp _ h0;have cf:=fun W hW=>form_any ts hpos kp W hW
 have cw:=fun W hW=>now_any ts hpos kp W hW
 have cn:=fun W hW=>next_any (headT ts).kind ts hts kp W hW
 unfold tkV at cw;have hL1:=tok_one (headT ts);obtain⟨R,hR⟩:∃ R,R=mustR text ts:=⟨_,rfl⟩
 rw[← hR];unfold mustR formR wrongR at hR;have HSK:=Qh (fun h=>@sees_kind text ts h);have hu:=underlying97;have K2:=Qh (heap_alloc_new w (.cells zeroTok 97));have hsz:(enTok (headT ts)).toArray.size=4:=rfl;have HRV:=Qh hR;have HV:=Qh (show tkV (headT ts)=.agg (enTok (headT ts)).toArray from rfl);have hfl:∀ W,(Instr.field 97 (.agg (enTok (headT ts)).toArray) 0).run prog W=.ok (.int .i64 (headT ts).kind) W:=fun W=>tk_f0 _ _ _ _ W
 have hsq:=@next_self ts;generalize seesB text ts=S at *;clear hR;generalize hLL:(enTok (headT ts)).toArray=L at *;have HB0:=Qh hb0;have H0:=Qh h0;have hkw:=h.lt;have HSQ:=Qh hsq;clear hb0 h0 h hLL hsq;go_enter func39,ntmps39
 go_wp2_with fail;(with_reducible refine cs.mono ?_);rintro e w1 ⟨rfl,hb⟩;have HB:=Qh (bstep HB0.out hb lrf);have H1:=Qh (H0.out.keep hb);have K1:=Qh (kind_at K2.out hb);clear cs hb K2 H0;cases S
 ·have HVR:=Qh (show R=.bad (formN ts) (headT ts).line (headT ts).col by rw[HRV.out];rfl);have cF:=cf w1 H1.out;go_wp2_with fail;(with_reducible refine cF.mono ?_);rintro e w2 ⟨rfl,hb⟩;have HB2:=Qh (Only.of_below kp (bstep HB.out hb lrf));clear hb cF;go_wp2_with fail;exact⟨rfl,by rw[HVR.out];exact⟨rfl,HB2.out⟩⟩
 ·have HVR:=Qh (show R=.ok (headT ts) ts.tail by rw[HRV.out];rfl);have cW:=cw w1 H1.out;have hk0:=HSK.out rfl;go_wp2_with fail;(with_reducible refine cW.mono ?_);rintro e w2 ⟨rfl,hb⟩;have HB2:=Qh (bstep HB.out hb lrf);have cN:=cn w2 (H1.out.keep hb);rw[HSQ.out hk0]at cN;have K3:=Qh (kind_at K1.out hb);clear hb cW;go_wp2_with fail;(with_reducible refine cN.mono ?_);rintro e w3 ⟨rfl,ho,hp⟩;rw[HV.out];have hz:w3.heap[w.heap.size]? = some (.cells zeroTok 97):=(ho.block _ (gE K3.out) (by simp;omega)).trans K3.out;have bz:Blk w3 w.heap.size zeroTok:=⟨_,hz⟩
  have HO:=Qh ((Only.of_below kp HB2.out).trans ho);have HP:=Qh hp;clear ho hp cN hz;go_wp2_with (refine wpList_storeS (cs:=L) bz 97 (.tmp 4) (.tmp 15) (by rw[hsz];exact tok_size) (by rw[hsz];rfl) hL1 ?_)
  have hrun:=run_loadS (bz.row L) 97 _ hu rfl (by rw[hsz];exact tok_size);refine bodyPost_ret (v:=.agg L) (by simp[results,results39,Act.put,asAddr,hrun]) rfl ?_;rw[HVR.out];refine⟨by rw[HV.out],HO.out.row _ lrf L,HP.out.row hkw L⟩
set_option maxRecDepth 100000 in theorem pmay_any (text : List UInt8) (ts : List TokD) (hts : TsOK ts) (kp : Nat) (w : World) (h : PAt w kp ts) :
  Calls prog 76 #[.pointer (some ⟨kp,0,none⟩),.string ⟨text.toArray⟩] w fun e w'=>PPost kp w (fun b=>.bool b) (mayR text ts) e w':=by
 have cs:=sees_any text ts hts.pos kp _ h;have cm:=fun W hW=>must_any text ts hts kp W hW
 obtain⟨R,hR⟩:∃ R,R=mayR text ts:=⟨_,rfl⟩
 rw[← hR];unfold mayR at hR;unfold mustR at cm;have HRV:=Qh hR;generalize seesB text ts=S at *;have H0:=Qh h;clear hR h;go_enter func76,ntmps76
 go_wp2_with fail;(with_reducible refine cs.mono ?_);rintro e w1 ⟨rfl,hb⟩;have HB:=Qh hb;have H1:=Qh (H0.out.keep hb);clear cs hb H0;cases S
 ·have HVR:=Qh (show R=.ok false ts by rw[HRV.out];rfl);go_wp2_with fail;go_ret;rw[HVR.out];exact⟨rfl,Only.of_below kp HB.out,H1.out⟩
 ·have HVR:=Qh (show R=.ok true ts.tail by rw[HRV.out];rfl);have cM:=cm w1 H1.out;simp only[if_true]at cM;go_wp2_with fail;(with_reducible refine cM.mono ?_);rintro e w2 ⟨rfl,ho,hp⟩;have HO:=Qh ((Only.of_below kp HB.out).trans ho);have HP:=Qh hp;clear cM ho hp;go_wp2_with fail;go_ret;rw[HVR.out];exact⟨rfl,HO.out,HP.out⟩
set_option maxRecDepth 100000 in theorem named_any (ts : List TokD) (hts : 0 < ts.length) (kp : Nat) (w : World) (h : PAt w kp ts) :
  Calls prog 41 #[.pointer (some ⟨kp,0,none⟩)] w fun e w'=>e=.returned (.bool (namedB ts))∧Below w.heap.size w w':=by
 have c:=now_any ts hts kp w h;unfold tkV at c;have hL1:=tok_one (headT ts);obtain⟨B,hB⟩:∃ B,B=namedB ts:=⟨_,rfl⟩
 rw[← hB];unfold namedB at hB;generalize headT ts=t at *;have HE:=Qh (show(enTok t).toArray=#[.int .i64 t.kind,.string ⟨t.text.toArray⟩,.int .i64 t.line,.int .i64 t.col]from rfl);have hsz:(enTok t).toArray.size=4:=rfl;have HBV:=Qh hB;clear hB;generalize (enTok t).toArray=L at *;go_enter func41,ntmps41
 go_wp2_with fail;(with_reducible refine c.mono ?_);rintro e w1 ⟨rfl,hb⟩;have HB:=Qh (hb.alloc hb.size (.cells L 97));clear c hb h;go_upto_region 2 with (refine wpList_newS (Z:=zeroTok) (cs:=L) 97 (.tmp 3) (.tmp 5) (by rw[hsz];exact tok_zero) (by rw[hsz];rfl) hL1 ?_)
 have b5:=Blk.new w1 L 97;have f0:(w1.alloc (.cells L 97)).cell? ⟨w1.heap.size,0,none⟩=some (.int .i64 t.kind):=b5.cell 0 _ (by rw[HE.out];rfl);have f1:(w1.alloc (.cells L 97)).cell? ⟨w1.heap.size,1,none⟩=some (.string ⟨t.text.toArray⟩):=b5.cell 1 _ (by rw[HE.out];rfl);generalize w1.alloc (.cells L 97)=W at *;clear b5;by_cases hm:t.text∈sixW
 ·have HV:=Qh (show B=false by rw[HBV.out,decide_eq_true hm];rfl);unfold sixW at hm;simp only[List.mem_cons,List.not_mem_nil,or_false]at hm;rcases hm with hm|hm|hm|hm|hm|hm
  all_goals
   rw[hm]at f1;go_wp2_with fail;go_ret;exact⟨by rw[HV.out];rfl,HB.out⟩
 ·have HV:=Qh (show B=(t.kind == 1)by rw[HBV.out,decide_eq_false hm];rfl);unfold sixW at hm;simp only[List.mem_cons,List.not_mem_nil,or_false,not_or]at hm;obtain⟨h1,h2,h3,h4,h5,h6⟩:=hm;have e1:=bN h1;have e2:=bN h2;have e3:=bN h3;have e4:=bN h4;have e5:=bN h5;have e6:=bN h6;go_wp2_with fail;go_ret;exact⟨by rw[HV.out];rfl,HB.out⟩
theorem named_kind {ts:List TokD} (h:namedB ts=true):(headT ts).kind=1:=by
 unfold namedB at h;simp only[Bool.and_eq_true,beq_iff_eq]at h;exact h.2
set_option maxRecDepth 100000 in theorem name_any (ts : List TokD) (hts : TsOK ts) (hlen : (headT ts).text.length ≤ 9223372036854775807) (kp : Nat) (w : World) (h : PAt w kp ts) :
  Calls prog 42 #[.pointer (some ⟨kp,0,none⟩)] w fun e w'=>PPost kp w (fun s=>.string ⟨s.toArray⟩) (nameR ts) e w':=by
 have hpos:=hts.pos;have cd:=named_any ts hpos kp _ h;have cf:=fun W hW=>form_any ts hpos kp W hW
 have cg:=fun W hW=>wrong_any 11 ts hpos kp W hW
 have cw:=fun W hW=>now_any ts hpos kp W hW
 have cn:=fun W hW=>next_any 1 ts hts kp W hW
 unfold tkV enTok at cw;obtain⟨R,hR⟩:∃ R,R=nameR ts:=⟨_,rfl⟩
 rw[← hR];unfold nameR formR wrongR at hR;have HSK:=Qh (fun h=>@named_kind ts h);have HRV:=Qh hR;have hf1:=tk_f1;have HNR:=Qh (show(headT ts).kind=1→nextR 1 ts=.ok (headT ts) ts.tail from fun h=>by unfold nextR;rw[if_pos ⟨h,by decide⟩]);generalize namedB ts=S at *;have H0:=Qh h;clear hR h;go_enter func42,ntmps42
 go_wp2_with fail;(with_reducible refine cd.mono ?_);rintro e w1 ⟨rfl,hb⟩;have HB:=Qh hb;have H1:=Qh (H0.out.keep hb);clear cd hb H0;cases S
 ·have HVR:=Qh (show R=.bad (formN ts) (headT ts).line (headT ts).col by rw[HRV.out];rfl);have cF:=cf w1 H1.out;go_wp2_with fail;(with_reducible refine cF.mono ?_);rintro e w2 ⟨rfl,hb⟩;have HB2:=Qh (Only.of_below kp (bstep HB.out hb lrf));clear hb cF;go_wp2_with fail;exact⟨rfl,by rw[HVR.out];exact⟨rfl,HB2.out⟩⟩
 ·have cW:=cw w1 H1.out;have hk1:=HSK.out rfl;by_cases hl:(headT ts).text.length≤64
  ·have HVR:=Qh (show R=.ok (headT ts).text ts.tail by rw[HRV.out];simp[hl]);have hli:¬ ((64:Int) < (headT ts).text.length):=(by omega);go_wp2_with fail;(with_reducible refine cW.mono ?_);rintro e w2 ⟨rfl,hb⟩;have HB2:=Qh (bstep HB.out hb lrf);have cN:=cn w2 (H1.out.keep hb);rw[HNR.out hk1]at cN;unfold PPost tkV enTok at cN;clear hb cW;go_wp2_with fail;(with_reducible refine cN.mono ?_);rintro e w3 ⟨rfl,ho,hp⟩;have HO:=Qh ((Only.of_below kp HB2.out).trans ho);have HP:=Qh hp;clear cN ho hp;go_wp2_with fail;go_ret;rw[HVR.out];exact⟨rfl,HO.out,HP.out⟩
  ·have HVR:=Qh (show R=.bad 11 (headT ts).line (headT ts).col by rw[HRV.out];simp[hl]);have hli:(64:Int) < (headT ts).text.length:=(by omega);go_wp2_with fail;(with_reducible refine cW.mono ?_);rintro e w2 ⟨rfl,hb⟩;have HB2:=Qh (bstep HB.out hb lrf);have cG:=cg w2 (H1.out.keep hb);clear hb cW;go_wp2_with fail;(with_reducible refine cG.mono ?_);rintro e w3 ⟨rfl,hb⟩;have HB3:=Qh (Only.of_below kp (bstep HB2.out hb lrf));clear hb cG;go_wp2_with fail;exact⟨rfl,by rw[HVR.out];exact⟨rfl,HB3.out⟩⟩
end Go.Proofs.YtkblpaabknjckaaGreatDoor
