/-
  lex.number: contract.
-/
import Derived.RangeFuncNested
import Derived.RangeFuncBound
import Derived.Test.YtfflljgnpfldfaaGreatDoorLexM
import Derived.Shelf.RegionOpen
import Derived.OwnWalkIn
import Derived.LoopNIn
import Derived.LoopIn
import Derived.Test.YtfflljgnpfldfaaGreatDoorRatD
set_option linter.all false
set_option maxHeartbeats 128000000
set_option maxRecDepth 100000
namespace Go.Proofs.YtfflljgnpfldfaaGreatDoor
open Go.RowKit
structure jG (B:Nat) (W W':World):Prop where
 size:W.heap.size≤W'.heap.size
 same:∀ k,B≤k→k < W.heap.size→W'.heap[k]? = W.heap[k]?
theorem jG.refl (B:Nat) (W:World):jG B W W:=⟨af,fun _ _ _=>rfl⟩
theorem jG.trans {B:Nat} {X Y Z:World} (h:jG B X Y) (k:jG B Y Z):jG B X Z:=
 ⟨bQ h.size k.size,fun i h1 h2=>(k.same i h1 (iH h2 h.size)).trans (h.same i h1 h2)⟩
theorem jG.mono {B B':Nat} {X Y:World} (h:jG B X Y) (hB:B≤B'):jG B' X Y:=⟨h.size,fun k h1 h2=>h.same k (bQ hB h1) h2⟩
theorem jG.of_below {B:Nat} {X Y:World} (h:Below X.heap.size X Y):jG B X Y:=⟨h.size,fun k _ h2=>h.block k h2⟩
theorem jG.setCell {B:Nat} {X Y:World} (h:jG B X Y) {p:Addr} (hp:p.block < B) (v:Value):jG B X (Y.setCell p v):=
 h.trans ⟨by show Y.heap.size≤(Y.heap.modify _ _).size;rw[Array.size_modify];exact af,fun k h1 h2=>dN Y p v k ae⟩
theorem jG.air {B l:Nat} {W:World} (o:Obj) (hl:l < B):jG B W (W.putObj l o):=
 ⟨by rw[World.putObj_size];exact af,fun k h1 h2=>World.putObj_heap_other ae⟩
theorem FV {B l:Nat} {W:World} (o:Obj) (hl:B≤l):Below B W (W.putObj l o):=
 ⟨rfl,rfl,rfl,by rw[World.putObj_size];exact af,fun k hk=>World.putObj_heap_other ae⟩
def I5 (B:Nat) (J:World→Prop):Prop:=∀ W W',J W→Below B W W'→J W'
def ads {α:Type} (F:Fence) (n:Nat) (P:Program) (g:Nat) (lb:Array Value) (encs:α→Array Value) (xs:List α) (w:World):Prop:=
 ∀ (l:Nat) (J:Nat→World→Prop) (Jx:World→Prop) (W:World),Below w.heap.size w W→(∀ k,I5 W.heap.size (J k))→I5 W.heap.size Jx →
  (∀ k (hk:k < xs.length) W1,J k W1→W.heap.size≤W1.heap.size→YieldAt F (n - 1) P l (encs xs[k]) W1 fun e W'=>
   (e=.returned (.bool true)∧J (k+1) W'∧jG W.heap.size W1 W')∨(e=.returned (.bool false)∧Jx W')) →
  J 0 W →
  CallsIn F n P g (#[.func (.yield l) #[] #[]]++lb) W fun e W'=>(∃ v,e=.returned v)∧(J xs.length W'∨Jx W')
def atf (B:Nat) (I:World→Prop) (Ix:World→Prop) (W:World):Exit→Act→World→Prop
 | .normal,_,W'=>jG B W W'∧I W'
 | .ret,_,W'=>jG B W W'∧Ix W'
 | .exit _,_,_=>False
 | .goto _,_,_=>False
 | .panic _,_,_=>False
 | .outgrown,_,_=>False
variable {F:Fence} {n:Nat} {P:Program}
theorem akg {α:Type} {g:Operand} {ps:Array Tmp} {assign body:Code} {Q:Exit→Act→World→Prop} {a:Act} {w:World}
  (hro:F.round=none) (h1:1≤n) {gf:Nat} {lb:Array Value} (hg:a.eval g=.func (.func gf) #[] lb) (hFg:F.fn gf) (eg:∀ args w,(callFunc gf args).run P w=.ok (.enter gf args) w)
  {encs:α→Array Value} {xs:List α} {w0:World} (hseq:ads F (n - 1) P gf lb encs xs w0) (hb0:Below w0.heap.size w0 w) (fR:∀ x,(encs x).size=ps.size)
  (I:Nat→World→Prop) (Ix:World→Prop) (hI:∀ k,I5 w.heap.size (I k)) (hIx:I5 w.heap.size Ix) (h0:I 0 w)
  (Ax:Nat→Act→World→Prop) (hAx:∀ k a' W o,Ax k a' W→Ax k a' (W.putObj (w.heap.size+1) o))
  (atg:∀ (k:Nat) (hk:k < xs.length) (W:World) (K:Act→World→Prop),I k W→w.heap.size+1 < W.heap.size →
   (∀ a' W',jG w.heap.size W W'→I k W'→Ax k a' W'→K a' W') →
   assign.wpIn (F.inRound (w.heap.size+1)) (n - 1 - 1) P (Exit.then K (fun _ _ _=>False)) { tmps:=(ps.zip (encs xs[k])).foldl (fun t (p,v)=>t.setIfInBounds p v) a.tmps,defers:=[] } W)
  (ath:∀ (k:Nat) (hk:k < xs.length) (a':Act) (W:World),I k W→Ax k a' W→w.heap.size+1 < W.heap.size →
   body.wpIn (F.inRound (w.heap.size+1)) (n - 1 - 1) P (atf w.heap.size (I (k+1)) Ix W) a' W)
  (hdone:∀ (W:World),I xs.length W→W.heap[w.heap.size]? = some (.deferred (some []))→Q .normal { a with defers:={ target:=.collected w.heap.size,args:=#[] } :: a.defers } W)
  (ati:∀ (W:World),Ix W→W.heap[w.heap.size]? = some (.deferred (some []))→Code.ret.wpIn F n P Q { a with defers:={ target:=.collected w.heap.size,args:=#[] } :: a.defers } W) :
  (Code.rangeFunc g ps assign body).wpIn F n P Q a w:=by
 refine wpIn_rangeFunc fun fn hfn=>?_
 rw[hro];obtain⟨mk,hmk⟩:∃ mk:LoopState→Option Code→Loop,mk=fun st pe=>{ state:=st,pending:=pe,fn,tmps:=a.tmps,params:=ps,assign,body,defers:=w.heap.size }:=⟨_,rfl⟩
 obtain⟨V,hV⟩:∃ V,(w.alloc (.deferred (some []))).alloc (.loop (mk .ready none))=V:=⟨_,rfl⟩
 have hVs:V.heap.size=w.heap.size+2:=(by rw[← hV];simp);have Nt:V.heap[w.heap.size+1]? = some (.loop (mk .ready none)):=by
  have:=World.alloc_heap_new (w.alloc (.deferred (some []))) (.loop (mk .ready none))
  rwa [jW,hV]at this
 have hVd:V.heap[w.heap.size]? = some (.deferred (some [])):=by
  rw[← hV];exact(zG _ _ _ aB).trans (World.alloc_heap_new w _)
 have hwV:Below w.heap.size w V:=(by rw[← hV];exact((aC _ w).alloc af _).alloc aB _);refine⟨w.heap.size+1,[{ target:=.collected w.heap.size,args:=#[] }],V,{ target:=.fn (.func gf) lb,args:=#[.func (.yield (w.heap.size+1)) #[] #[]] },V,gf,
  #[.func (.yield (w.heap.size+1)) #[] #[]]++lb,V,?_,?_,?_,?_,fun _=>h1,?_⟩
 ·rw[← hV,hmk];exact run_enterLoop_outer _ _ _ _ _
 ·simp only[resolve,hg];simp[go_sem]
 ·intro f' hf';simp[Target.leads]at hf';subst hf';exact hFg
 ·simp[invoke,go_sem,eg]
 ·have TP:∀ {W W':World} {k:Nat} {o:Obj},Below V.heap.size W W'→k < w.heap.size+2→W.heap[k]? = some o→W'.heap[k]? = some o:=fun hb hk h=>(hb.block _ ae).trans h
  refine(hseq (w.heap.size+1)
   (fun k W=>I k W∧W.heap[w.heap.size+1]? = some (.loop (mk .ready none))∧W.heap[w.heap.size]? = some (.deferred (some [])))
   (fun W=>Ix W∧W.heap[w.heap.size+1]? = some (.loop (mk .done (some .ret)))∧W.heap[w.heap.size]? = some (.deferred (some [])))
   V (hb0.trans (hwV.mono hb0.size))
   (fun k W W' h hb=>⟨hI k W W' h.1 (hb.mono ae),TP hb ae h.2.1,TP hb ae h.2.2⟩)
   (fun W W' h hb=>⟨hIx W W' h.1 (hb.mono ae),TP hb ae h.2.1,TP hb ae h.2.2⟩)
   ?_ ⟨hI 0 w V h0 hwV,Nt,hVd⟩).mono ?_
  ·rintro k hk W ⟨hi,hl,hd⟩ hsz;have hy:=run_yield (P:=P) (args:=encs xs[k]) hl (by rw[hmk];exact fR _);rw[hmk]at hy;refine⟨fn,_,assign,body,hy,roundIn_of_wpIn hfn (atg k hk W _ hi ae ?_)⟩;clear hy;intro a' Wa dC hia VN;have XG:=(dC.same (w.heap.size+1) ae ae).trans hl;have RD:=(dC.same w.heap.size af ae).trans hd;refine⟨_,run_beginRound XG (by rw[hmk]),?_⟩;obtain⟨Wb,Ho⟩:∃ Wb,Wa.putObj (w.heap.size+1) (.loop { mk .ready none with state:=.busy })=Wb:=⟨_,rfl⟩
   have hsa:w.heap.size+1 < Wa.heap.size:=(gE XG)
   have Kp:Wb.heap[w.heap.size+1]? = some (.loop { mk .ready none with state:=.busy }):=(by rw[← Ho];exact World.putObj_heap_same hsa);have Dp:Wb.heap[w.heap.size]? = some (.deferred (some [])):=(by rw[← Ho];exact(World.putObj_heap_other ae).trans RD);have hib:I k Wb:=(by rw[← Ho];exact hI k _ _ hia (FV _ ae));have hxb:Ax k a' Wb:=(by rw[← Ho];exact hAx k a' Wa _ VN);have hsb:w.heap.size+1 < Wb.heap.size:=(by rw[← Ho,World.putObj_size];exact hsa);have gh:jG (w.heap.size+2) W Wb:=(by rw[← Ho];exact(dC.mono ae).trans (jG.air _ ae));rw[Ho];refine wpIn_mono (ath k hk a' Wb hib hxb hsb) ?_;have fin:∀ (jump:Option Code) (W3:World),jG w.heap.size Wb W3 →
     (Instr.endRound (w.heap.size+1) jump).run P W3=.ok (.bool jump.isNone) (W3.putObj (w.heap.size+1) (.loop (mk (if jump.isNone then .ready else .done) jump))) ∧
     (W3.putObj (w.heap.size+1) (.loop (mk (if jump.isNone then .ready else .done) jump))).heap[w.heap.size+1]? = some (.loop (mk (if jump.isNone then .ready else .done) jump)) ∧
     (W3.putObj (w.heap.size+1) (.loop (mk (if jump.isNone then .ready else .done) jump))).heap[w.heap.size]? = some (.deferred (some [])) ∧
     jG V.heap.size W (W3.putObj (w.heap.size+1) (.loop (mk (if jump.isNone then .ready else .done) jump))):=fun jump W3 hb3=>by
    have hl3:=(hb3.same (w.heap.size+1) ae hsb).trans Kp;have hd3:=(hb3.same w.heap.size af ae).trans Dp;have hr:=run_endRound (P:=P) jump hl3;have hl4:=hl3;rw[hmk]at hr ⊢;exact⟨hr,World.putObj_heap_same (gE hl4),(World.putObj_heap_other ae).trans hd3,
     by rw[hVs];exact(gh.trans (hb3.mono ae)).trans (jG.air _ ae)⟩
   rintro e a3 W3 hp;cases e with
   | normal=>
    obtain⟨hb3,qA⟩:=hp;obtain⟨hr,hl4,hd4,hb4⟩:=fin none W3 hb3;exact⟨_,_,hr,.inl ⟨rfl,⟨hI _ _ _ qA (FV _ ae),hl4,hd4⟩,hb4⟩⟩
   | ret=>
    obtain⟨hb3,qA⟩:=hp;obtain⟨hr,hl4,hd4,hb4⟩:=fin (some .ret) W3 hb3;exact⟨_,_,hr,.inr ⟨rfl,hIx _ _ qA (FV _ ae),hl4,hd4⟩⟩
   | exit id=>exact hp.elim
   | goto t=>exact hp.elim
   | panic ch=>exact hp.elim
   | outgrown=>exact hp.elim
  ·rintro e W2 ⟨⟨v,rfl⟩,(⟨hi,hl,hd⟩|⟨hi,hl,hd⟩)⟩
   ·exact⟨none,_,by have:=run_endLoop (P:=P) hl (by rw[hmk];simp);rw[hmk]at this;exact this,hdone _ (hI _ _ _ hi (FV _ ae)) ((World.putObj_heap_other ae).trans hd)⟩
   ·exact⟨some .ret,_,by have:=run_endLoop (P:=P) hl (by rw[hmk];simp);rw[hmk]at this;exact this,ati _ (hIx _ _ hi (FV _ ae)) ((World.putObj_heap_other ae).trans hd)⟩
open Go.Proofs.Tryz
open Go.RowKit Go.Shelf
attribute [local go_sem] Oper.semAt_some
theorem ai.st {w:World} {k:Nat} {cs:Array Value} (h:ai w k cs) (j:Nat) (v:Value):ai (w.setCell ⟨k,j,none⟩ v) k (cs.setIfInBounds j v):=by
 obtain⟨T,h⟩:=h;exact⟨T,by simp[World.setCell,Di,h]⟩
theorem ai.same {w w':World} {k:Nat} {cs:Array Value} (h:ai w k cs) (e:w'.heap[k]? = w.heap[k]?):ai w' k cs:=by
 obtain⟨T,h⟩:=h;exact⟨T,e.trans h⟩
def adn (u:ig):Array Value:=#[.agg #[.int .i64 u.line,.int .i64 u.ak],.int .i32 (u.rune:Nat)]
def j0 (xs:List ig):Nat→Int×Int
 | 0=>(1,1)
 | k+1=>bW (j0 xs k) ((xs[k]?.map ig.rune).getD 0)
theorem ado (s:List UInt8) (k:Nat) (hk:k < (aK s).length):(aK s)[k].line=(j0 (aK s) k).1∧(aK s)[k].ak=(j0 (aK s) k).2:=by
 induction k with
 | zero=>exact(adp _ _ _ 0 hk).1 rfl
 | succ k ih=>
  obtain⟨i1,i2⟩:=ih ae;have h:=(adp s.length s (1,1) k (show k < (aK s).length by omega)).2 hk;have e:j0 (aK s) (k+1)=bW ((aK s)[k].line,(aK s)[k].ak) (aK s)[k].rune:=by
   show bW (j0 (aK s) k) _=_;rw[i1,i2,kC ae];rfl
  rw[e];exact Prod.mk.injEq .. ▸ (show((aK s)[k+1].line,(aK s)[k+1].ak)=(_,_)from h)
theorem adq (r:Nat):mj r=true↔r < 32∨r=127:=by unfold mj;simp
theorem adr (r:Nat) (w:World) :
  Calls prog 131 #[.int .i32 (r:Nat)] w fun e w'=>e=.returned (.bool (mj r))∧w' = w:=by
 have HI:=Qh (adq r);generalize mj r=b at *;by_cases h1:(r:Int) < 32
 ·have HB:=Qh (show b=true from HI.o.2 (.inl ae));clear HI;go_enter func131,ntmps131
  exact Hp
 ·by_cases h2:r=127
  ·have HB:=Qh (show b=true from HI.o.2 (.inr h2));have hb:((r:Int) == 127)=true:=(by rw[h2];rfl);clear HI h2;go_enter func131,ntmps131
   exact Hp
  ·have HB:=Qh (show b=false by rw[rS];intro h;rcases HI.o.1 h with h|h<;>omega);have hb:((r:Int) == 127)=false:=ft;clear HI h2;go_enter func131,ntmps131
   exact Hp
theorem aj7 (r:Nat) (w:World) :
  Calls prog 132 #[.int .i32 (r:Nat)] w fun e w'=>e=.returned (.bool (iR r))∧w' = w:=by
 refine aiG ?_;intro e1 e2 e3 e4;have HI:=Qh (show iR r=(r == 32 || r == 9 || r == 10 || r == 13)from rfl);generalize iR r=b at *;generalize (r == 32)=b1 at *;generalize (r == 9)=b2 at *;generalize (r == 10)=b3 at *;generalize (r == 13)=b4 at *;cases b1<;>cases b2<;>cases b3<;>cases b4
 all_goals
  have HB:=Qh HI.o;clear HI;go_enter func132,ntmps132
  exact Hp
theorem aj8 (s:ByteArray) (w:World) :
  Calls prog 128 #[.string s] w fun e w'=>e=.returned (.func (.func 165) #[] #[.pointer (some ⟨w.heap.size,0,none⟩)])∧w' = w.alloc (.cells #[.string s] 9):=by
 go_enter func128,ntmps128
 exact Hx
theorem aj9 (s:List UInt8) (hs:s.length≤1048576) (bs:Nat) (w:World) (hb:bs < w.heap.size) (hc:w.cell? ⟨bs,0,none⟩=some (.string ⟨s.toArray⟩)) (n:Nat) (hn:1≤n) :
  ads Fence.wide n prog 165 #[.pointer (some ⟨bs,0,none⟩)] adn (aK s) w:=by
 intro l J Jx W hW hJ hJx hY h0;have hcW:W.cell? ⟨bs,0,none⟩=some (.string ⟨s.toArray⟩):=(hW.cell (p:=⟨bs,0,none⟩) hb).trans hc;refine callsIn_of_wp func165 rfl trivial ?_ rfl;simp only[ntmps165,List.size_toArray,dz,lF,Nat.reduceAdd,Nat.reduceSub,Array.replicate_succ,Array.replicate_zero,List.push_toArray,List.append_toArray,mf,uD];have hbW:bs < W.heap.size:=iH hb hW.size
 gi_wp2
 generalize Mi:aK s=xs at *;have hall:=fun k hk=>adt s k hk
 have lJ:=fun k hk=>VI s k hk
 have I3:=fun k hk=>ado s k hk
 have VJ:=adu s.length s (1,1) af;rw[show dc s.length s (1,1)=xs from Mi]at VJ;rw[Mi]at hall lJ I3;have hle:xs.length≤s.length:=(by rw[← Mi];exact adv _ _ _);have adw:=Qh hall;clear hall;refine fx lJ I3 VJ Mi ?_;clear lJ I3 VJ Mi;intro nY BG aka HXS;have hb0:Below W.heap.size W ((W.alloc (.cells #[.int .i64 1,.int .i64 1] 24)).iter ⟨s.toArray⟩ 0):=((aC _ W).alloc af _).alloc aB _;have zT:ai ((W.alloc (.cells #[.int .i64 1,.int .i64 1] 24)).iter ⟨s.toArray⟩ 0) W.heap.size #[.int .i64 1,.int .i64 1]:=(ai.new W #[.int .i64 1,.int .i64 1] 24).alloc _;have oz:((W.alloc (.cells #[.int .i64 1,.int .i64 1] 24)).iter ⟨s.toArray⟩ 0).heap[W.heap.size+1]? = some (.stringIter ⟨s.toArray⟩ 0):=by
  have:=Dl (W.alloc (.cells #[.int .i64 1,.int .i64 1] 24)) ⟨s.toArray⟩ 0
  rwa [jW]at this
 have hJ0:=hJ 0 _ _ h0 hb0;generalize (W.alloc (.cells #[.int .i64 1,.int .i64 1] 24)).iter ⟨s.toArray⟩ 0=V at *;clear hcW h0
 gi_loopw [] (fun wr=>∃ k:Nat,k≤xs.length∧wr.heap[W.heap.size+1]? = some (.stringIter ⟨s.toArray⟩ (fJ xs k))∧ai wr W.heap.size #[.int .i64 (j0 xs k).1,.int .i64 (j0 xs k).2]∧J k wr)
  (fun wr=>s.length - wr.iterPos (W.heap.size+1))
 case atStart=>exact⟨0,bV _,by rw[VK];exact oz,zT,hJ0⟩
 case round=>
  obtain⟨k,hk,hit,hpl,hj⟩:=hrel;clear oz zT hJ0 hb0;have hst:W.heap.size+1 < wr.heap.size:=(gE hit)
  by_cases hlt:k < xs.length
  ·obtain⟨u1,u2,u3⟩:=adw.o k hlt;obtain⟨d1,d2,d3,d4⟩:=nY.o k hlt;obtain⟨p1,p2⟩:=BG.o k hlt;have fR:fJ xs k < (⟨s.toArray⟩:ByteArray).size:=u1;have dW:∀ ty,(Instr.next (.pointer (some ⟨W.heap.size+1,0,none⟩)) true ty).run prog wr=_:=fun ty=>Lib.run_next_any_at wr (W.heap.size+1) ⟨s.toArray⟩ (fJ xs k) ty hit fR
   rw[Ba,← u2,← u3]at dW;have oC:=Dm wr (W.heap.size+1) ⟨s.toArray⟩ (fJ xs k) (fJ xs (k+1)) hit;have bm:=VL xs k hlt;have uL:(wr.iterPos (W.heap.size+1))=fJ xs k:=rU hit;rw[← bm]at dW;have L9:=Lib.iterAt_size wr (W.heap.size+1) ⟨s.toArray⟩ (fJ xs (k+1));have bP:Below W.heap.size wr (wr.iterAt (W.heap.size+1) ⟨s.toArray⟩ (fJ xs (k+1))):=BB (aC _ _) ae _ _;have Mj:ai (wr.iterAt (W.heap.size+1) ⟨s.toArray⟩ (fJ xs (k+1))) W.heap.size #[.int .i64 (j0 xs k).1,.int .i64 (j0 xs k).2]:=hpl.same (Fw _ _ _ _ _ ae);have tF:=hJ k _ _ hj bP;have HM:=Qh uL;have QI:=Qh bm;have adx:j0 xs (k+1)=bW (j0 xs k) xs[k].rune:=(by show bW (j0 xs k) _=_;rw[kC hlt];rfl);have bw:=Qh adx;have hu1:fJ xs k < s.length:=u1;have HU:=Qh hu1;clear uL bm adx fR u1 u2 u3 hu1;obtain⟨wv,hwv⟩:∃ x,wr.iterAt (W.heap.size+1) ⟨s.toArray⟩ (fJ xs (k+1))=x:=⟨_,rfl⟩
   rw[hwv]at dW oC L9 bP Mj tF;have akb:W.heap.size+1 < wv.heap.size:=(by rw[L9];exact hst);clear hwv L9 bP hpl hit hj;rw[← p1,← p2]at Mj;obtain⟨fn,tmps,assign,body,hy,hR⟩:=hY k hlt wv tF ae;have hy2:(Instr.yield l #[.agg #[.int .i64 xs[k].line,.int .i64 xs[k].ak],.int .i32 (xs[k].rune:Nat)]).run prog wv=_:=hy;have HPE:=Qh p1;have HPF:=Qh p2;clear hy p1 p2;generalize xs[k].line=L at *;generalize xs[k].ak=C at *;generalize xs[k].rune=R at *;obtain⟨c0,c1,_,_⟩:=Mj.two
   gi_wp2
   refine hR.mono ?_;rintro e W' (⟨rfl,hj3,hk3⟩|⟨rfl,hx3⟩)
   ·have QJ:=(hk3.same (W.heap.size+1) ae ae).trans oC;have VM:ai W' W.heap.size _:=Mj.same (hk3.same _ af ae);have auT:W.heap.size+1 < W'.heap.size:=iH akb hk3.size;have hw3:=adw.o k hlt;have hwd:=(pd (s.drop (fJ xs k))).1;rw[← hw3.2.2]at hwd;clear hy2 hR hk3 oC Mj tF c0 c1 dW hw3 hY;obtain⟨c0,c1,f0,f1⟩:=VM.two;have HW3:=Qh hwd;clear hwd;by_cases Mk:R=10
    ·have hb1:((R:Int) == 10)=true:=(by rw[Mk];rfl);have HR:=Qh Mk;clear Mk
     gi_wp2
     have hbl:Below W.heap.size W' (((W'.setCell ⟨W.heap.size,1,none⟩ (.int .i64 (C+1))).setCell ⟨W.heap.size,0,none⟩ (.int .i64 (L+1))).setCell ⟨W.heap.size,1,none⟩ (.int .i64 1)):=(((aC W.heap.size W').setCell (p:=⟨W.heap.size,1,none⟩) af _).setCell (p:=⟨W.heap.size,0,none⟩) af _).setCell (p:=⟨W.heap.size,1,none⟩) af _;go_roundw;case rel=>
      refine⟨k+1,hlt,?_,?_,hJ (k+1) _ _ hj3 hbl⟩
      ·rw[← QJ];simp[World.setCell,Di]
      ·have:=((VM.st 1 (.int .i64 (C+1))).st 0 (.int .i64 (L+1))).st 1 (.int .i64 1);rw[bw.o,HR.o];unfold bW;rw[if_pos rfl,← HPE.o];exact this
     case measure=>
      rw[rU (p:=fJ xs (k+1)) (s:=⟨s.toArray⟩) (by rw[← QJ];simp[World.setCell,Di]),HM.o];have h1:=QI.o;have h2:=HW3.o;have h3:=HU.o;omega
    ·have hb1:((R:Int) == 10)=false:=ft;have HR:=Qh Mk;clear Mk
     gi_wp2
     have hbl:Below W.heap.size W' (W'.setCell ⟨W.heap.size,1,none⟩ (.int .i64 (C+1))):=(aC W.heap.size W').setCell (p:=⟨W.heap.size,1,none⟩) af _;go_roundw;case rel=>
      refine⟨k+1,hlt,?_,?_,hJ (k+1) _ _ hj3 hbl⟩
      ·rw[← QJ];simp[World.setCell,Di]
      ·have:=VM.st 1 (.int .i64 (C+1));rw[bw.o];unfold bW;rw[if_neg HR.o,← HPE.o,← HPF.o];exact this
     case measure=>
      rw[rU (p:=fJ xs (k+1)) (s:=⟨s.toArray⟩) (by rw[← QJ];simp[World.setCell,Di]),HM.o];have h1:=QI.o;have h2:=HW3.o;have h3:=HU.o;omega
   ·clear hy2 hR c0 c1 dW
    gi_wp2
    refine bB (results_none rfl _ _ _) rfl ?_;exact⟨⟨_,rfl⟩,.inr hx3⟩
  ·have pZ:k=xs.length:=ae;subst pZ;have fR:¬ fJ xs xs.length < (⟨s.toArray⟩:ByteArray).size:=(by rw[aka.o];exact Dn _);have dW:∀ ty,(Instr.next (.pointer (some ⟨W.heap.size+1,0,none⟩)) true ty).run prog wr=_:=fun ty=>IF wr (W.heap.size+1) ⟨s.toArray⟩ (fJ xs xs.length) ty hit fR
   clear fR hY
   gi_wp2
   go_end0
   exact⟨⟨_,rfl⟩,.inl (by rw[HXS.o];exact hj)⟩
def js (r:Nat):Bool:=(decide (97≤r) && decide (r≤122)) || (decide (65≤r) && decide (r≤90)) || r == 95
def eZ (r:Nat):Bool:=decide (48≤r) && decide (r≤57)
theorem ana (c:UInt8):fq c=eZ c.toNat:=rfl
theorem WG (r:Nat):js r=true↔(97≤r∧r≤122)∨(65≤r∧r≤90)∨r=95:=by unfold js;simp[or_assoc]
theorem WH (r:Nat):eZ r=true↔48≤r∧r≤57:=by unfold eZ;simp
theorem Rj {r:Nat} (h:js r=true):r < 128:=by rcases (WG r).1 h with h|h|h<;>omega
theorem Ge {r:Nat} (h:eZ r=true):r < 128:=by have:=(WH r).1 h;omega
theorem MK (r:Nat) (w:World) :
  Calls prog 133 #[.int .i32 (r:Nat)] w fun e w'=>e=.returned (.bool (js r))∧w' = w:=by
 have HI:=Qh (WG r);generalize js r=b at *;have fin:∀ v:Bool,(v=true↔(97≤r∧r≤122)∨(65≤r∧r≤90)∨r=95)→b=v:=fun v hv=>PY
 by_cases h1:(97:Int)≤r
 ·by_cases h2:(r:Int)≤122
  ·have HB:=Qh (fin true cO);clear HI fin;go_enter func133,ntmps133
   go_wp2_with fail;go_ret;exact⟨mO,rfl⟩
  ·have HB:=Qh (fin false cO);have h3:(65:Int)≤r:=ae;have h4:¬ (r:Int)≤90:=ae;have h5:((r:Int) == 95)=false:=ft;clear HI fin;go_enter func133,ntmps133
   go_wp2_with fail;go_ret;exact⟨mO,rfl⟩
 ·by_cases h3:(65:Int)≤r
  ·by_cases h4:(r:Int)≤90
   ·have HB:=Qh (fin true cO);clear HI fin;go_enter func133,ntmps133
    go_wp2_with fail;go_ret;exact⟨mO,rfl⟩
   ·by_cases h6:r=95
    ·have HB:=Qh (fin true cO);have h5:((r:Int) == 95)=true:=(by rw[h6];rfl);clear HI fin h6;go_enter func133,ntmps133
     go_wp2_with fail;go_ret;exact⟨mO,rfl⟩
    ·have HB:=Qh (fin false cO);have h5:((r:Int) == 95)=false:=ft;clear HI fin h6;go_enter func133,ntmps133
     go_wp2_with fail;go_ret;exact⟨mO,rfl⟩
  ·have HB:=Qh (fin false cO);have h5:((r:Int) == 95)=false:=ft;clear HI fin;go_enter func133,ntmps133
   go_wp2_with fail;go_ret;exact⟨mO,rfl⟩
theorem Jt (r:Nat) (w:World) :
  Calls prog 134 #[.int .i32 (r:Nat)] w fun e w'=>e=.returned (.bool (eZ r))∧w' = w:=by
 have HI:=Qh (WH r);generalize eZ r=b at *;have fin:∀ v:Bool,(v=true↔48≤r∧r≤57)→b=v:=fun v hv=>PY
 by_cases h1:(48:Int)≤r
 ·by_cases h2:(r:Int)≤57
  ·have HB:=Qh (fin true cO);clear HI fin;go_enter func134,ntmps134
   go_wp2_with fail;go_ret;exact⟨mO,rfl⟩
  ·have HB:=Qh (fin false cO);clear HI fin;go_enter func134,ntmps134
   go_wp2_with fail;go_ret;exact⟨mO,rfl⟩
 ·have HB:=Qh (fin false cO);clear HI fin;go_enter func134,ntmps134
  go_wp2_with fail;go_ret;exact⟨mO,rfl⟩
def dA:List UInt8→Nat
 | []=>0
 | c::_=>if eW c=true then 1 else 0
theorem anb (s:List UInt8) (w:World) :
  Calls prog 167 #[.string ⟨s.toArray⟩] w fun e w'=>e=.returned (.int .i64 (dA s:Nat))∧w' = w:=by
 by_cases h0:s=[]
 ·subst h0;go_enter func167,ntmps167
  go_wp2_with fail;go_ret;exact⟨rfl,rfl⟩
 ·have bm:0 < s.length:=qs.2 h0;have hne:s.isEmpty=false:=(by cases s<;>first|rfl|exact absurd rfl h0);have fZ:(⟨s.toArray⟩:ByteArray)[0]'bm=s[0]:=rfl;have cV:dA s=if eW s[0]=true then 1 else 0:=(by cases s<;>first|rfl|exact absurd rfl h0);have e43:UInt8.toNat 43=43:=rfl;have e45:UInt8.toNat 45=45:=rfl;generalize s[0]=c at *;generalize dA s=T at *;clear h0;by_cases h1:c=43
  ·have HT:=Qh (show T=1 by rw[cV,h1];rfl);have g1:((c.toNat:Int) == 43)=true:=(by rw[h1];rfl);clear cV h1;go_enter func167,ntmps167
   go_wp2_with fail;go_ret;exact⟨by rw[HT.o]<;>rfl,rfl⟩
  ·have g1:((c.toNat:Int) == 43)=false:=(by rw[gT];intro h;exact h1 (UInt8.toNat.inj ae));by_cases h2:c=45
   ·have HT:=Qh (show T=1 by rw[cV,h2];rfl);have g2:((c.toNat:Int) == 45)=true:=(by rw[h2];rfl);clear cV h1 h2;go_enter func167,ntmps167
    go_wp2_with fail;go_ret;exact⟨by rw[HT.o]<;>rfl,rfl⟩
   ·have g2:((c.toNat:Int) == 45)=false:=(by rw[gT];intro h;exact h2 (UInt8.toNat.inj ae));have HT:=Qh (show T=0 by rw[cV,if_neg];unfold eW;simp[h1,h2]);clear cV h1 h2;go_enter func167,ntmps167
    go_wp2_with fail;go_ret;exact⟨by rw[HT.o]<;>rfl,rfl⟩
theorem anc (s:List UInt8) (hs:s.length≤1000000000) (w:World) :
  Calls prog 168 #[.string ⟨s.toArray⟩] w fun e w'=>e=.returned (.int .i64 ((tw s).length:Nat))∧Below w.heap.size w w':=by
 obtain⟨T,hT⟩:∃ T,T=(tw s).length:=⟨_,rfl⟩
 rw[← hT];have hb0:Below w.heap.size w (w.iter ⟨s.toArray⟩ 0):=(aC _ _).alloc af _;have oz:=Dl w ⟨s.toArray⟩ 0;have HT:=Qh hT;clear hT;go_enter func168,ntmps168
 go_wp2_with fail;generalize w.iter ⟨s.toArray⟩ 0=V at *;go_loopw [] (fun wr=>∃ k:Nat,k≤s.length∧T=k+(tw (s.drop k)).length∧wr.heap[w.heap.size]? = some (.stringIter ⟨s.toArray⟩ k)∧Below w.heap.size w wr) (fun wr=>s.length - wr.iterPos w.heap.size)
 case atStart=>exact⟨0,bV _,by rw[HT.o];simp,oz,hb0⟩
 case round=>
  clear oz hb0 HT;obtain⟨k,hk,jz,hit,bh⟩:=hrel;have uL:wr.iterPos w.heap.size=k:=rU hit;by_cases hlt:k < s.length
  ·have fR:k < (⟨s.toArray⟩:ByteArray).size:=hlt;have dW:∀ ty,(Instr.next (.pointer (some ⟨w.heap.size,0,none⟩)) true ty).run prog wr=_:=fun ty=>Lib.run_next_any_at wr w.heap.size ⟨s.toArray⟩ k ty hit fR
   rw[Ba]at dW;have hd:=jq hlt;rw[hd]at jz dW;generalize s[k]=c at *;cases hc:eZ (ay (c::s.drop (k+1))).1
   ·have Ju:fq c=false:=by
     rw[rS];intro h;have h2:=Ge (show eZ c.toNat=true from h);rw[Jv c _ h2]at hc;rw[ana]at h;rw[h]at hc;cases hc
    rw[uw Ju]at jz;have kY:=Qh (show T=k from jz);have pY:=BB bh (k:=w.heap.size) af ⟨s.toArray⟩ (k+(ay (c::s.drop (k+1))).2);have cd:=Jt (ay (c::s.drop (k+1))).1;rw[hc]at cd;clear hd jz hc Ju uL fR;generalize (ay (c::s.drop (k+1))).1=R at *;generalize (ay (c::s.drop (k+1))).2=N at *;generalize wr.iterAt w.heap.size ⟨s.toArray⟩ (k+N)=wv at *;go_wp2_with fail;with_reducible refine(cd _).mono ?_
    rintro e w1 ⟨rfl,rfl⟩;go_wp2_with fail;go_ret;exact⟨by rw[kY.o]<;>rfl,pY⟩
   ·obtain⟨Jw,hlo⟩:=Jy c (s.drop (k+1)) (Ge hc);rw[Jw]at dW hc;have Ju:fq c=true:=hc;rw[sx Ju]at jz;have kY:=Qh (show T=k+1+(tw (s.drop (k+1))).length by rw[jz,dz];omega);have pY:=BB bh (k:=w.heap.size) af ⟨s.toArray⟩ (k+1);have oC:=Dm wr w.heap.size ⟨s.toArray⟩ k (k+1) hit;have cd:=Jt c.toNat;rw[hc]at cd;have HM:=Qh uL;clear hd jz hc Ju uL fR Jw hlo;simp only at dW;generalize wr.iterAt w.heap.size ⟨s.toArray⟩ (k+1)=wv at *;go_wp2_with fail;with_reducible refine(cd _).mono ?_
    rintro e w1 ⟨rfl,rfl⟩;go_wp2_with fail;go_roundw;case rel=>exact⟨k+1,ae,kY.o,oC,pY⟩
    case measure=>rw[rU oC,HM.o];omega
  ·have kY:=Qh (show T=k by rw[jz,show k=s.length by omega,qZ];rfl);have fR:¬ k < (⟨s.toArray⟩:ByteArray).size:=hlt;have dW:∀ ty,(Instr.next (.pointer (some ⟨w.heap.size,0,none⟩)) true ty).run prog wr=_:=fun ty=>IF wr w.heap.size ⟨s.toArray⟩ k ty hit fR
   have cz:(s.length:Int)=k:=ae;have WI:=Qh cz;clear jz fR uL cz;go_wp2_with fail;go_ret;exact⟨by rw[kY.o];exact jA _ (by show Value.int _ _=Value.int _ _;rw[WI.o]),bh⟩
attribute [local go_sem] Oper.semAt_some
def eH (no line ak:Int):Value:=.iface 102 (.agg #[.int .i64 no,.int .i64 line,.int .i64 ak])
def xO (s:List UInt8):Value:=
 if 1048576 < s.length then dE 5 else match tG s with
  | none=>.nilIface
  | some u=>eH 6 u.line u.ak
theorem FR (L:List UInt8) (i:Nat) (hi:i≤L.length):(⟨L.toArray⟩:ByteArray).extract i L.length=⟨(L.drop i).toArray⟩:=by
 refine Us ?_;intro h
 apply h;rw[Go.Lib.extract_data];show(L.drop i).take (L.length - i)=L.drop i;rw[IA (by rw[e7];exact af)]
theorem ady {xs:List ig} (h:∀ j (hj:j < xs.length),iZ xs[j].rune xs[j].wide=false):xs.find? (fun u=>iZ u.rune u.wide)=none:=by
 rw[List.find?_eq_none];intro u hu;obtain⟨j,hj,rfl⟩:=List.getElem_of_mem hu;rw[h j hj];decide
theorem adz {xs:List ig} {k:Nat} (hk:k < xs.length) (hb:iZ xs[k].rune xs[k].wide=true) (h:∀ j (hj:j < xs.length),j < k→iZ xs[j].rune xs[j].wide=false):xs.find? (fun u=>iZ u.rune u.wide)=some xs[k]:=by
 rw[List.find?_eq_some_iff_getElem];exact⟨hb,k,hk,rfl,fun j hj=>by rw[h j ae hj];rfl⟩
theorem adA (l:List UInt8):Lib.hasPrefix l [239,191,189]=true↔3≤l.length∧(l.getD 0 0).toNat=239∧(l.getD 1 0).toNat=191∧(l.getD 2 0).toNat=189:=by
 have e:∀ (a:UInt8) (n:Nat),n < 256→(a.toNat=n↔a=UInt8.ofNat n):=fun a n hn=>⟨fun h=>by rw[← h,UInt8.ofNat_toNat],fun h=>by rw[h,Fm Iu]⟩
 rcases l with _|⟨a,_|⟨b,_|⟨c,t⟩⟩⟩
 ·simp[Lib.hasPrefix]
 ·simp[Lib.hasPrefix]
 ·simp[Lib.hasPrefix]
 ·simp only[dz,List.getD_cons_zero,List.getD_cons_succ,e a 239 ah,e b 191 ah,e c 189 ah];show List.isPrefixOf [239,191,189] (a::b::c::t)=true↔_;rw[List.isPrefixOf_iff_prefix];constructor
  ·rintro⟨m,hm⟩;simp only[uD,mf,List.cons.injEq]at hm;obtain⟨h1,h2,h3,_⟩:=hm;exact⟨ae,h1.symm,h2.symm,h3.symm⟩
  ·rintro⟨_,h1,h2,h3⟩;subst h1 h2 h3;exact⟨t,rfl⟩
theorem akc (l:List UInt8) (hl:l≠[]):((ay l).1≠65533∧Lib.runeLen ((ay l).1:Int)=((ay l).2:Int)∧iZ (ay l).1 (ay l).2=(mj (ay l).1 && !iR (ay l).1)) ∨
  ((ay l).1=65533∧(ay l).2=3∧Lib.hasPrefix l [239,191,189]=true∧iZ (ay l).1 (ay l).2=false) ∨
  ((ay l).1=65533∧(ay l).2=1∧Lib.hasPrefix l [239,191,189]=false∧iZ (ay l).1 (ay l).2=true):=by
 by_cases h:(ay l).1=65533
 ·right
  rcases adB l.length (l.getD 0 0).toNat (l.getD 1 0).toNat (l.getD 2 0).toNat (l.getD 3 0).toNat (vP _) (vP _) (vP _) h with ⟨h1,h2⟩|⟨h1,h2⟩
  ·right
   have e2:(ay l).2=1:=h1;refine⟨h,e2,?_,?_⟩
   ·rw[rS];intro h3;exact h2 ((adA l).1 h3)
   ·unfold iZ gF;rw[h,e2];rfl
  ·left
   have e2:(ay l).2=3:=h1;refine⟨h,e2,(adA l).2 h2,?_⟩;unfold iZ gF;rw[h,e2];rfl
 ·left
  have hi:gF (ay l).1 (ay l).2=false:=(by unfold gF;rw[bN h];rfl);exact⟨h,akd l hi,by unfold iZ;rw[hi];rfl⟩
def I4 (s:List UInt8) (w:World) (k:Nat) (W:World):Prop:=
 (Below w.heap.size w W∧ai W w.heap.size #[.string ⟨s.toArray⟩]∧ai W (w.heap.size+1) #[.nilIface]∧ai W (w.heap.size+1+1) #[.int .i64 (fJ (aK s) k:Nat)]) ∧
  ∀ j (hj:j < (aK s).length),j < k→iZ (aK s)[j].rune (aK s)[j].wide=false
def QK (s:List UInt8) (w:World) (W:World):Prop:=Below w.heap.size w W∧∃ u,tG s=some u∧ai W (w.heap.size+1) #[eH 6 u.line u.ak]
def ake (s:List UInt8) (w:World) (B:Nat) (k:Nat) (a':Act) (W:World):Prop:=
 ∃ (b:Nat) (L C:Int) (R:Nat),B < b∧(∀ h:k < (aK s).length,L=(aK s)[k].line∧C=(aK s)[k].ak∧R=(aK s)[k].rune)∧ai W b #[.int .i64 L,.int .i64 C] ∧
  a' = { tmps:=#[.string ⟨s.toArray⟩,.pointer (some ⟨w.heap.size,0,none⟩),.pointer (some ⟨w.heap.size+1,0,none⟩),.pointer (some ⟨w.heap.size+1+1,0,none⟩),.pointer (some ⟨b,0,none⟩),.int .i32 (R:Nat),undef,.string ⟨s.toArray⟩,.int .i64 (s.length:Nat),.bool false,undef,.string ⟨s.toArray⟩,.func (.func 165) #[] #[.pointer (some ⟨w.heap.size+1+1+1,0,none⟩)],.agg #[.int .i64 L,.int .i64 C],.int .i32 (R:Nat),undef,undef,undef,undef,undef,undef,undef,undef,undef,undef,undef,undef,undef,undef,undef,undef,undef,undef,undef,undef,undef,undef,undef,undef,undef,undef,undef,undef,undef,undef,undef,undef,undef,undef],defers:=[] }
theorem QL {V W W':World} {j:Nat} {cs:Array Value} (hb:Below V.heap.size W W') (hj:j < V.heap.size) (h:ai W j cs):ai W' j cs:=h.same (hb.block _ hj)
theorem I4.low {s:List UInt8} {w V:World} (hV:V.heap.size=w.heap.size+1+1+1+1) (k:Nat):I5 V.heap.size (I4 s w k):=fun W W' h hb=>
 ⟨⟨h.1.1.trans (hb.mono ae),QL hb ae h.1.2.1,QL hb ae h.1.2.2.1,QL hb ae h.1.2.2.2⟩,h.2⟩
theorem QK.low {s:List UInt8} {w V:World} (hV:V.heap.size=w.heap.size+1+1+1+1):I5 V.heap.size (QK s w):=fun W W' h hb=>
 ⟨h.1.trans (hb.mono ae),let ⟨u,h1,h2⟩:=h.2;⟨u,h1,QL hb ae h2⟩⟩
theorem akf (s:List UInt8) (hs:s.length≤1048576) (w:World) :
  Calls prog 80 #[.string ⟨s.toArray⟩] w fun e w'=>e=.returned (xO s)∧Below w.heap.size w w':=by
 have hl:¬ (1048576:Int) < s.length:=ae;refine(mP (n:=9)).1 ?_;refine callsIn_of_wp_marks func80 rfl trivial ?_ rfl;simp only[ntmps80,List.size_toArray,dz,lF,Nat.reduceAdd,Nat.reduceSub,Array.replicate_succ,Array.replicate_zero,List.push_toArray,List.append_toArray,mf,uD]
 gi_wp2_with (refine⟨trivial,?_⟩;gi_at_call 128;refine(mP.2 (aj8 _ _)).mono ?_;rintro e w' ⟨rfl,rfl⟩)
 obtain⟨V0,dM⟩:∃ x,((w.alloc (.cells #[.string ⟨s.toArray⟩] 9)).alloc (.cells #[.nilIface] 54)).alloc (.cells #[.int .i64 0] 3)=x:=⟨_,rfl⟩
 have b1:ai V0 w.heap.size #[.string ⟨s.toArray⟩]:=(by rw[← dM];exact((ai.new w _ _).alloc _).alloc _);have b2:ai V0 (w.heap.size+1) #[.nilIface]:=by
  rw[← dM];have:=ai.new (w.alloc (.cells #[.string ⟨s.toArray⟩] 9)) #[.nilIface] 54;rw[jW]at this;exact this.alloc _
 have b3:ai V0 (w.heap.size+1+1) #[.int .i64 0]:=by
  rw[← dM];have:=ai.new ((w.alloc (.cells #[.string ⟨s.toArray⟩] 9)).alloc (.cells #[.nilIface] 54)) #[.int .i64 0] 3;rw[jW,jW]at this;exact this
 have hz:V0.heap.size=w.heap.size+1+1+1:=(by rw[← dM];simp);have hb0:Below w.heap.size w V0:=(by rw[← dM];exact(((aC _ w).alloc af _).alloc aB _).alloc cO _);rw[dM];clear dM;have b4:=ai.new V0 #[.string ⟨s.toArray⟩] 9;rw[hz]at b4;have hz1:(V0.alloc (.cells #[.string ⟨s.toArray⟩] 9)).heap.size=w.heap.size+1+1+1+1:=(by simp[hz]);replace hb0:Below w.heap.size w (V0.alloc (.cells #[.string ⟨s.toArray⟩] 9)):=hb0.alloc ae _;replace b1:=b1.alloc (.cells #[.string ⟨s.toArray⟩] 9);replace b2:=b2.alloc (.cells #[.string ⟨s.toArray⟩] 9);replace b3:=b3.alloc (.cells #[.string ⟨s.toArray⟩] 9);generalize V0.alloc (.cells #[.string ⟨s.toArray⟩] 9)=V at *;clear hz;have HZ:=Qh hz1;have h0:I4 s w 0 V:=⟨⟨hb0,b1,b2,by rw[VK];exact b3⟩,fun j hj h=>absurd h (Nat.not_lt_zero _)⟩
 have hall:=aj9 s hs (w.heap.size+1+1+1) V ae (b4.cell 0 _ rfl) (9 - 1) ah;clear hz1 b1 b2 b3 b4 hb0 hl;refine akg rfl ah (gf:=165) (lb:=#[.pointer (some ⟨w.heap.size+1+1+1,0,none⟩)]) rfl trivial (enters_of func165 aj rfl)
  hall (aC _ _) (fun _=>rfl) (I4 s w) (QK s w) (I4.low HZ.o) (QK.low HZ.o) h0 (ake s w (V.heap.size+1))
  (fun k a' W o h=>by
   obtain⟨b,L,C,R,h1,h2,h3,h4⟩:=h;exact⟨b,L,C,R,h1,h2,h3.same (World.putObj_heap_other ae),h4⟩) ?assign ?body ?done ?stop
 case assign=>
  intro k hk W K hi hsz hK;have HI:=Qh hi;have HK:=Qh hK;clear hi hK h0 hall;unfold adn
  gi_wp2
  have cH:Below W.heap.size W (W.alloc (.cells #[.int .i64 (aK s)[k].line,.int .i64 (aK s)[k].ak] 24)):=(aC _ _).alloc af _;exact HK.o _ _ (jG.of_below cH) (I4.low HZ.o k _ _ HI.o (cH.mono ae)) ⟨W.heap.size,_,_,_,hsz,fun _=>⟨rfl,rfl,rfl⟩,ai.new _ _ _,rfl⟩
 case body=>
  intro k hk a' W hi VN hsz;obtain⟨⟨hb,b1,b2,b3⟩,FT⟩:=hi;obtain⟨b,L,C,R,hB,hu,bb,rfl⟩:=VN;obtain⟨rfl,rfl,rfl⟩:=hu hk;obtain⟨u1,u2,u3⟩:=adt s k hk;have adC:=akc (s.drop (fJ (aK s) k)) Pv;refine qW (pd (s.drop (fJ (aK s) k))) ?_;intro hw
  have hw3:=hw.2.2 Pv;rw[← u2,← u3]at adC;rw[← u3]at hw3;have akh:=FR s (fJ (aK s) k) ae;have hpS:=VL (aK s) k hk;refine aY FT hpS (fun hb:iZ (aK s)[k].rune (aK s)[k].wide=true=>(⟨(aK s)[k],adz hk hb FT,rfl,rfl⟩:∃ u,tG s=some u∧u.line=(aK s)[k].line∧u.ak=(aK s)[k].ak)) ?_;intro auU HPS I6;have je:=Qh (fun (hb:iZ (aK s)[k].rune (aK s)[k].wide=false) j (hj:j < (aK s).length) (h:j < k+1)=>show iZ (aK s)[j].rune (aK s)[j].wide=false from by
   by_cases hjk:j < k
   ·exact FT j hj hjk
   ·obtain rfl:j=k:=by omega
    exact hb)
  clear hw u2 u3 FT hpS h0 hall hu;refine fx b1 b2 b3 hb ?_;clear b1 b2 b3 hb;intro bX aM bT bE;have c1:=bX.o.cell 0 _ rfl;have c2:=aM.o.cell 0 _ rfl;have c3:=bT.o.cell 0 _ rfl;have f2:=aM.o.free 0;have f3:=bT.o.free 0;obtain⟨e0,e1,_,_⟩:=bb.two;have BP:=fun w=>adr (aK s)[k].rune w
  have FU:=fun w=>aj7 (aK s)[k].rune w
  have DK:=fun w=>Tryz.utf8_RuneLen ((aK s)[k].rune:Int) w
  have BQ:=fun w=>Tryz.strings_HasPrefix ⟨(s.drop (fJ (aK s) k)).toArray⟩ ⟨#[239,191,189]⟩ w
  have hlen:(⟨s.toArray⟩:ByteArray).size=s.length:=rfl;generalize (aK s)[k].line=L at *;generalize (aK s)[k].ak=C at *;generalize (aK s)[k].rune=R at *;generalize (aK s)[k].wide=N at *;generalize fJ (aK s) k=ps at *;rcases adC with ⟨k1,k2,k3⟩|⟨k1,k2,k3,k4⟩|⟨k1,k2,k3,k4⟩
  ·have g1:((R:Int) != 65533)=true:=vH;have g2:((R:Int) == 65533)=false:=ft;rw[k2]at DK;clear k2 k1 BQ;cases hc:mj R
   ·rw[hc]at BP k3;have nY:=Qh (show iZ R N=false from k3);clear hc k3
    gi_wp2_with (first|(refine⟨trivial,?_⟩;gi_at_call 130;refine(CallsIn.inRound _ (mP.2 (DK _))).mono ?_;rintro e w' ⟨rfl,rfl⟩)|(refine⟨trivial,?_⟩;gi_at_call 129;refine(CallsIn.inRound _ (mP.2 (BQ _))).mono ?_;rintro e w' ⟨rfl,rfl⟩)|(refine⟨trivial,?_⟩;gi_at_call 131;refine(CallsIn.inRound _ (mP.2 (BP _))).mono ?_;rintro e w' ⟨rfl,rfl⟩)|(refine⟨trivial,?_⟩;gi_at_call 132;refine(CallsIn.inRound _ (mP.2 (FU _))).mono ?_;rintro e w' ⟨rfl,rfl⟩)|(refine⟨trivial,?_⟩))
    exact TZ
   ·cases bO:iR R
    ·rw[hc]at BP k3;rw[bO]at FU k3;have nY:=Qh (show iZ R N=true from k3);clear hc bO k3
     gi_wp2_with (first|(refine⟨trivial,?_⟩;gi_at_call 130;refine(CallsIn.inRound _ (mP.2 (DK _))).mono ?_;rintro e w' ⟨rfl,rfl⟩)|(refine⟨trivial,?_⟩;gi_at_call 129;refine(CallsIn.inRound _ (mP.2 (BQ _))).mono ?_;rintro e w' ⟨rfl,rfl⟩)|(refine⟨trivial,?_⟩;gi_at_call 131;refine(CallsIn.inRound _ (mP.2 (BP _))).mono ?_;rintro e w' ⟨rfl,rfl⟩)|(refine⟨trivial,?_⟩;gi_at_call 132;refine(CallsIn.inRound _ (mP.2 (FU _))).mono ?_;rintro e w' ⟨rfl,rfl⟩)|(refine⟨trivial,?_⟩))
     obtain⟨u,hu1,hu2,hu3⟩:=I6.o nY.o;exact abe
    ·rw[hc]at BP k3;rw[bO]at FU k3;have nY:=Qh (show iZ R N=false from k3);clear hc bO k3
     gi_wp2_with (first|(refine⟨trivial,?_⟩;gi_at_call 130;refine(CallsIn.inRound _ (mP.2 (DK _))).mono ?_;rintro e w' ⟨rfl,rfl⟩)|(refine⟨trivial,?_⟩;gi_at_call 129;refine(CallsIn.inRound _ (mP.2 (BQ _))).mono ?_;rintro e w' ⟨rfl,rfl⟩)|(refine⟨trivial,?_⟩;gi_at_call 131;refine(CallsIn.inRound _ (mP.2 (BP _))).mono ?_;rintro e w' ⟨rfl,rfl⟩)|(refine⟨trivial,?_⟩;gi_at_call 132;refine(CallsIn.inRound _ (mP.2 (FU _))).mono ?_;rintro e w' ⟨rfl,rfl⟩)|(refine⟨trivial,?_⟩))
     exact TZ
  ·have g1:((R:Int) != 65533)=false:=(by rw[k1];rfl);have g2:((R:Int) == 65533)=true:=(by rw[k1];rfl);have g3:((N:Int) == 1)=false:=(by rw[k2];rfl);have aki:=fun w=>DK w
   rw[show Lib.runeLen (R:Int)=(N:Int)by rw[k1,k2];rfl]at DK;have akj:=fun w=>BQ w
   rw[k3]at BQ;rw[show mj R=false by rw[k1];rfl]at BP;have nY:=Qh (show iZ R N=false from k4);clear k1 k2 k3 k4 aki akj
   gi_wp2_with (first|(refine⟨trivial,?_⟩;gi_at_call 130;refine(CallsIn.inRound _ (mP.2 (DK _))).mono ?_;rintro e w' ⟨rfl,rfl⟩)|(refine⟨trivial,?_⟩;gi_at_call 129;refine(CallsIn.inRound _ (mP.2 (BQ _))).mono ?_;rintro e w' ⟨rfl,rfl⟩)|(refine⟨trivial,?_⟩;gi_at_call 131;refine(CallsIn.inRound _ (mP.2 (BP _))).mono ?_;rintro e w' ⟨rfl,rfl⟩)|(refine⟨trivial,?_⟩;gi_at_call 132;refine(CallsIn.inRound _ (mP.2 (FU _))).mono ?_;rintro e w' ⟨rfl,rfl⟩)|(refine⟨trivial,?_⟩))
   exact TZ
  ·have g1:((R:Int) != 65533)=false:=(by rw[k1];rfl);have g2:((R:Int) == 65533)=true:=(by rw[k1];rfl);rw[k3]at BQ;have nY:=Qh (show iZ R N=true from k4);clear k1 k2 k3 k4
   gi_wp2_with (first|(refine⟨trivial,?_⟩;gi_at_call 130;refine(CallsIn.inRound _ (mP.2 (DK _))).mono ?_;rintro e w' ⟨rfl,rfl⟩)|(refine⟨trivial,?_⟩;gi_at_call 129;refine(CallsIn.inRound _ (mP.2 (BQ _))).mono ?_;rintro e w' ⟨rfl,rfl⟩)|(refine⟨trivial,?_⟩;gi_at_call 131;refine(CallsIn.inRound _ (mP.2 (BP _))).mono ?_;rintro e w' ⟨rfl,rfl⟩)|(refine⟨trivial,?_⟩;gi_at_call 132;refine(CallsIn.inRound _ (mP.2 (FU _))).mono ?_;rintro e w' ⟨rfl,rfl⟩)|(refine⟨trivial,?_⟩))
   obtain⟨u,hu1,hu2,hu3⟩:=I6.o nY.o;exact abe
 case done=>
  intro W hi hD;obtain⟨⟨hb,b1,b2,b3⟩,FT⟩:=hi;have HC:=Qh (show xO s=.nilIface by
   unfold xO;rw[if_neg ae,show tG s=none from ady (fun j hj=>FT j hj hj)])
  have bE:=Qh hb;have aM:=Qh b2;clear hb b1 b3 FT h0 hall;obtain⟨c1,c2⟩:W.cell? ⟨w.heap.size+1,0,none⟩=some .nilIface∧W.frozen? ⟨w.heap.size+1,0,none⟩=false:=⟨b2.cell 0 _ rfl,b2.free 0⟩
  clear b2
  gi_wp2
  have hne:V.heap.size≠w.heap.size+1:=(by have:=HZ.o;omega);have hK':(W.setCell ⟨w.heap.size+1,0,none⟩ .nilIface).heap[V.heap.size]? = some (.deferred (some [])):=(dN W ⟨w.heap.size+1,0,none⟩ .nilIface _ hne).trans hD;refine⟨aB,.inl ⟨_,_,rfl,run_takeDeferred hK',?_⟩⟩;have hc5:=(((aM.o.st 0 .nilIface).same (World.putObj_heap_other (o:=.deferred none) hne.symm)).cell 0 _ rfl:((W.setCell ⟨w.heap.size+1,0,none⟩ .nilIface).putObj V.heap.size (.deferred none)).cell? ⟨w.heap.size+1,0,none⟩=some .nilIface)
  refine⟨.nilIface,?_,by rw[HC.o],(bE.o.setCell (p:=⟨w.heap.size+1,0,none⟩) (by show _≤w.heap.size+1;omega) _).trans (FV _ (by have:=HZ.o;omega))⟩;simp[results,Tryz.f80,go_sem,hc5]
 case stop=>
  intro W hx hD;obtain⟨hb,u,hu,b2⟩:=hx;have HC:=Qh (show xO s=eH 6 u.line u.ak by
   unfold xO;rw[if_neg ae,hu])
  clear hu h0 hall;have hne:V.heap.size≠w.heap.size+1:=by have:=HZ.o;omega
  gi_wp2
  refine⟨aB,.inl ⟨_,_,rfl,run_takeDeferred hD,?_⟩⟩;have hc5:=((b2.same (World.putObj_heap_other (o:=.deferred none) hne.symm)).cell 0 _ rfl:(W.putObj V.heap.size (.deferred none)).cell? ⟨w.heap.size+1,0,none⟩=some (eH 6 u.line u.ak))
  refine⟨eH 6 u.line u.ak,?_,by rw[HC.o],hb.trans (FV _ (by have:=HZ.o;omega))⟩;simp[results,Tryz.f80,go_sem,hc5]
theorem akk (s:List UInt8) (hs:s.length≤9223372036854775807) (w:World) :
  Calls prog 80 #[.string ⟨s.toArray⟩] w fun e w'=>e=.returned (xO s)∧Below w.heap.size w w':=by
 by_cases h:(1048576:Int) < s.length
 ·have HC:=Qh (show xO s=dE 5 by unfold xO;rw[if_pos ae]);go_enter func80,ntmps80
  go_wp2_with fail;exact bB (v:=dE 5) (by simp[results,results80,go_sem,dE]) rfl ⟨by rw[HC.o],((aC _ _).alloc af _).alloc aB _⟩
 ·exact akf s ae w
def qU (c:UInt8):Bool:=js c.toNat || c == 46
def kM (s:List UInt8) (n:Nat):Nat:=match s[n]? with
 | some c=>if qU c=true then 0 else n
 | none=>n
def kN (s:List UInt8) (n:Nat):Nat:=match s[n]? with
 | some c=>if ju c=true then (if tw (s.drop (n+1+dA (s.drop (n+1))))=[] then 0 else kM s (n+1+dA (s.drop (n+1))+(tw (s.drop (n+1+dA (s.drop (n+1))))).length)) else kM s n
 | none=>kM s n
def ni (s:List UInt8) (n:Nat):Nat:=match s[n]? with
 | some c=>if c=46 then (if tw (s.drop (n+1))=[] then 0 else kN s (n+(1+(tw (s.drop (n+1))).length))) else kN s n
 | none=>kN s n
def fg (s:List UInt8):Nat:=ni s (dA s+(tw (s.drop (dA s))).length)
theorem D7 (s:List UInt8):dA s≤1∧dA s≤s.length:=by
 cases s with
 | nil=>exact⟨bV _,af⟩
 | cons c t=>show(if _ then 1 else 0)≤1∧(if _ then 1 else 0)≤(c::t).length;split<;>simp
theorem wA (l:List UInt8):(tw l).length≤l.length:=by
 unfold tw;exact(List.takeWhile_sublist _).length_le
theorem Gf {s:List UInt8} {n:Nat} (h:n < s.length):s[n]? = some s[n]:=kC h
theorem ML {s:List UInt8} {n:Nat} (h:¬ n < s.length):s[n]? = none:=Fp ae
theorem MM {s:List UInt8} {n:Nat} (h:¬ n < s.length):kM s n=n:=by unfold kM;rw[ML h]
theorem MN {s:List UInt8} {n:Nat} (h:¬ n < s.length):kN s n=n:=by unfold kN;rw[ML h];exact MM h
theorem WJ {s:List UInt8} {n:Nat} (h:¬ n < s.length):ni s n=n:=by unfold ni;rw[ML h];exact MN h
theorem E5 {c:UInt8} {m:Nat} (hm:m < 256) (h:c≠UInt8.ofNat m):((c.toNat:Int) == (m:Int))=false:=by
 rw[gT];intro e;exact h (UInt8.toNat.inj (by rw[Fm (by simpa using hm)];omega))
theorem ane (s:List UInt8) (hs:s.length≤1000000000) (w:World) :
  Calls prog 135 #[.string ⟨s.toArray⟩] w fun e w'=>e=.returned (.int .i64 (fg s:Nat))∧Below w.heap.size w w':=by
 obtain⟨T,hT⟩:∃ T,T=fg s:=⟨_,rfl⟩
 rw[← hT];have HT:=Qh hT;clear hT;have gl:=fun (n:Nat) w=>anb (s.drop n) w
 have kO:=fun (n:Nat) w=>anc (s.drop n) Ih w
 have hex:=fun (n:Nat) (hn:n≤s.length)=>FR s n hn
 have CSG:=Qh gl;have WL:=Qh kO;have Rk:=Qh hex;clear gl kO hex;have c0:=CSG.o 0;rw[List.drop_zero]at c0;obtain⟨g1,g2⟩:=D7 s;go_enter func135,ntmps135
 go_wp2_with fail;with_reducible refine(c0 _).mono ?_
 rintro e w1 ⟨rfl,rfl⟩;clear c0;have c1:=WL.o (dA s);have x1:=Rk.o (dA s) g2;have tl:=wA (s.drop (dA s));rw[e7]at tl;have HN:=Qh (show T=ni s (dA s+(tw (s.drop (dA s))).length)from HT.o);clear HT;generalize dA s=a at *;generalize (tw (s.drop a)).length=b at *;go_wp2_with fail;with_reducible refine(c1 _).mono ?_
 rintro e w2 ⟨rfl,hb2⟩;clear c1 x1;have gA:a+b≤s.length:=ae;have aM:=Qh hb2;clear hb2 g1 g2 tl;obtain⟨n1,hn⟩:∃ n1,n1=a+b:=⟨_,rfl⟩
 rw[← hn]at HN gA;have hcast:(a:Int)+(b:Int)=(n1:Nat):=ae;clear hn;obtain⟨w0,hw0⟩:∃ x,x=w1:=⟨_,rfl⟩
 subst hw0;by_cases hlt:(n1:Int) < s.length
 ·have a8:n1 < s.length:=ae;have fZ:(⟨s.toArray⟩:ByteArray)[n1]'a8 = s[n1]:=rfl;have hS:=HN.o;unfold ni at hS;rw[Gf a8]at hS;simp only at hS;have tH:=Qh hS;clear HN hS;generalize s[n1]=c at *;go_upto_if 23 with (fail)
  clear hcast;go_cut [3] (fun x ws=>∃ n:Nat,x=.int .i64 (n:Nat)∧n≤s.length∧T=kN s n∧Below w0.heap.size w0 ws)
  case first=>
   have hS:=tH.o;clear tH;by_cases hc:c=46
   ·rw[if_pos hc]at hS;have Gg:((c.toNat:Int) == 46)=true:=ow;have cd:=WL.o (n1+1);have hx:=Rk.o (n1+1) ae;have tl:=wA (s.drop (n1+1));rw[e7]at tl;clear hc;by_cases h0:tw (s.drop (n1+1))=[]
    ·rw[if_pos h0]at hS;rw[h0]at cd;have HS:=Qh hS;clear h0 hS tl;go_wp2_with fail;with_reducible refine(cd _).mono ?_
     rintro e w3 ⟨rfl,hb⟩;have bT:=Qh (aH aM.o hb af);clear hb cd;go_wp2_with fail;go_ret;exact⟨rO,bT.o⟩
    ·rw[if_neg h0]at hS;have hk:0 < (tw (s.drop (n1+1))).length:=qs.2 h0;generalize (tw (s.drop (n1+1))).length=k at *;have HS:=Qh hS;have hk0:((k:Int) == 0)=false:=ft;clear h0 hS;go_wp2_with fail;with_reducible refine(cd _).mono ?_
     rintro e w3 ⟨rfl,hb⟩;have bT:=Qh (aH aM.o hb af);clear hb cd;go_wp2_with fail;go_meet
     case rel=>exact⟨n1+(1+k),dV,ae,HS.o,bT.o⟩
   ·rw[if_neg hc]at hS;have Gg:((c.toNat:Int) == 46)=false:=E5 (m:=46) ah hc;have HS:=Qh hS;clear hc hS;go_wp2_with fail;go_meet
    case rel=>exact⟨n1,dV,gA,HS.o,aM.o⟩
  case rest=>
   clear tH aM gA hlt a8 fZ;obtain⟨n2,rfl,wj,Jz,bh⟩:=hcut;have HN:=Qh Jz;have aM:=Qh bh;clear Jz bh;obtain⟨w2,hw2⟩:∃ x,x=wc:=⟨_,rfl⟩
   subst hw2;by_cases hlt:(n2:Int) < s.length
   ·have a8:n2 < s.length:=ae;have fZ:(⟨s.toArray⟩:ByteArray)[n2]'a8 = s[n2]:=rfl;have hS:=HN.o;unfold kN at hS;rw[Gf a8]at hS;simp only at hS;clear HN;by_cases hc:ju s[n2]=true
    ·rw[if_pos hc]at hS;have hcc:((s[n2].toNat:Int) == 101)=true∨(((s[n2].toNat:Int) == 101)=false∧((s[n2].toNat:Int) == 69)=true):=by
      unfold ju at hc;rw[nJ,dZ,dZ]at hc;rcases hc with h|h
      ·left;rw[h];rfl
      ·right;rw[h];exact⟨rfl,rfl⟩
     generalize s[n2]=c2 at *;have cs:=CSG.o (n2+1);have hx1:=Rk.o (n2+1) ae;obtain⟨s1,s2⟩:=D7 (s.drop (n2+1));rw[e7]at s2;have hm:n2+1+dA (s.drop (n2+1))≤s.length:=ae;have cd:=WL.o (n2+1+dA (s.drop (n2+1)));have hx2:=Rk.o (n2+1+dA (s.drop (n2+1))) hm;have tl:=wA (s.drop (n2+1+dA (s.drop (n2+1))));rw[e7]at tl;generalize dA (s.drop (n2+1))=sg at *;clear hc;by_cases h0:tw (s.drop (n2+1+sg))=[]
     ·rw[if_pos h0]at hS;rw[h0]at cd;have HS:=Qh hS;clear h0 hS tl;rcases hcc with g1|⟨g1,g2⟩
      all_goals
       go_wp2_with fail;with_reducible refine(cs _).mono ?_
       rintro e w3 ⟨rfl,rfl⟩;go_wp2_with fail;with_reducible refine(cd _).mono ?_
       rintro e w3 ⟨rfl,hb⟩;have bT:=Qh (aH aM.o hb af);clear hb cd;go_wp2_with fail;go_ret;exact⟨rO,bT.o⟩
     ·rw[if_neg h0]at hS;have hk:0 < (tw (s.drop (n2+1+sg))).length:=qs.2 h0;generalize (tw (s.drop (n2+1+sg))).length=k at *;have HN:=Qh hS;have hk0:((k:Int) == 0)=false:=ft;obtain⟨n3,tJ⟩:∃ n3,n3=n2+1+sg+k:=⟨_,rfl⟩
      rw[← tJ]at HN;have auX:n3≤s.length:=ae;clear h0 hS;rcases hcc with g1|⟨g1,g2⟩
      ·go_wp2_with fail;with_reducible refine(cs _).mono ?_
       rintro e w3 ⟨rfl,rfl⟩;go_wp2_with fail;with_reducible refine(cd _).mono ?_
       rintro e w3 ⟨rfl,hb⟩;have bT:=Qh (aH aM.o hb af);clear hb cd;have hcast:(n2:Int)+1+(sg:Int)+(k:Int)=(n3:Nat):=ae;have anf:n2+1+sg+k=n3:=tJ.symm;clear tJ;by_cases hlt3:(n3:Int) < s.length
       ·have a8:n3 < s.length:=ae;have fZ:(⟨s.toArray⟩:ByteArray)[n3]'a8 = s[n3]:=rfl;have hS:=HN.o;unfold kM at hS;rw[Gf a8]at hS;simp only at hS;generalize s[n3]=c3 at *;have cl:=MK c3.toNat;have hw:IntKind.i32.wrap (c3.toNat:Int)=(c3.toNat:Int):=by
         have:=vP c3;unfold IntKind.wrap;simp[IntKind.bits,IntKind.signed];omega
        cases hl:js c3.toNat
        ·rw[hl]at cl;by_cases hc:c3=46
         ·rw[if_pos (by unfold qU;rw[hc];rfl)]at hS;have Gg:((c3.toNat:Int) == 46)=true:=ow;have HS:=Qh hS;clear hc hS HN hl;go_wp2_with fail;with_reducible refine(cl _).mono ?_
          rintro e w3 ⟨rfl,rfl⟩;go_wp2_with fail;go_ret;exact⟨rO,bT.o⟩
         ·rw[if_neg (by unfold qU;rw[hl];simpa using hc)]at hS;have Gg:((c3.toNat:Int) == 46)=false:=E5 (m:=46) ah hc;have HS:=Qh hS;clear hc hS HN hl;go_wp2_with fail;with_reducible refine(cl _).mono ?_
          rintro e w3 ⟨rfl,rfl⟩;go_wp2_with fail;go_ret;exact⟨rO,bT.o⟩
        ·rw[hl]at cl;rw[if_pos (by unfold qU;rw[hl];rfl)]at hS;have HS:=Qh hS;clear hS HN hl;go_wp2_with fail;with_reducible refine(cl _).mono ?_
         rintro e w3 ⟨rfl,rfl⟩;go_wp2_with fail;go_ret;exact⟨rO,bT.o⟩
       ·have HS:=Qh (show T=n3 by rw[HN.o];exact MM ae);clear HN;go_wp2_with fail;go_ret;exact⟨rO,bT.o⟩
      ·go_wp2_with fail;with_reducible refine(cs _).mono ?_
       rintro e w3 ⟨rfl,rfl⟩;go_wp2_with fail;with_reducible refine(cd _).mono ?_
       rintro e w3 ⟨rfl,hb⟩;have bT:=Qh (aH aM.o hb af);clear hb cd;have hcast:(n2:Int)+1+(sg:Int)+(k:Int)=(n3:Nat):=ae;have anf:n2+1+sg+k=n3:=tJ.symm;clear tJ;by_cases hlt3:(n3:Int) < s.length
       ·have a8:n3 < s.length:=ae;have fZ:(⟨s.toArray⟩:ByteArray)[n3]'a8 = s[n3]:=rfl;have hS:=HN.o;unfold kM at hS;rw[Gf a8]at hS;simp only at hS;generalize s[n3]=c3 at *;have cl:=MK c3.toNat;have hw:IntKind.i32.wrap (c3.toNat:Int)=(c3.toNat:Int):=by
         have:=vP c3;unfold IntKind.wrap;simp[IntKind.bits,IntKind.signed];omega
        cases hl:js c3.toNat
        ·rw[hl]at cl;by_cases hc:c3=46
         ·rw[if_pos (by unfold qU;rw[hc];rfl)]at hS;have Gg:((c3.toNat:Int) == 46)=true:=ow;have HS:=Qh hS;clear hc hS HN hl;go_wp2_with fail;with_reducible refine(cl _).mono ?_
          rintro e w3 ⟨rfl,rfl⟩;go_wp2_with fail;go_ret;exact⟨rO,bT.o⟩
         ·rw[if_neg (by unfold qU;rw[hl];simpa using hc)]at hS;have Gg:((c3.toNat:Int) == 46)=false:=E5 (m:=46) ah hc;have HS:=Qh hS;clear hc hS HN hl;go_wp2_with fail;with_reducible refine(cl _).mono ?_
          rintro e w3 ⟨rfl,rfl⟩;go_wp2_with fail;go_ret;exact⟨rO,bT.o⟩
        ·rw[hl]at cl;rw[if_pos (by unfold qU;rw[hl];rfl)]at hS;have HS:=Qh hS;clear hS HN hl;go_wp2_with fail;with_reducible refine(cl _).mono ?_
         rintro e w3 ⟨rfl,rfl⟩;go_wp2_with fail;go_ret;exact⟨rO,bT.o⟩
       ·have HS:=Qh (show T=n3 by rw[HN.o];exact MM ae);clear HN;go_wp2_with fail;go_ret;exact⟨rO,bT.o⟩
    ·rw[if_neg hc]at hS;have g1:((s[n2].toNat:Int) == 101)=false:=E5 (m:=101) ah (fun h=>hc (by rw[h];rfl));have g2:((s[n2].toNat:Int) == 69)=false:=E5 (m:=69) ah (fun h=>hc (by rw[h];rfl));have HN:=Qh hS;clear hc hS;have hS:=HN.o;unfold kM at hS;rw[Gf a8]at hS;simp only at hS;generalize s[n2]=c3 at *;have cl:=MK c3.toNat;have hw:IntKind.i32.wrap (c3.toNat:Int)=(c3.toNat:Int):=by
      have:=vP c3;unfold IntKind.wrap;simp[IntKind.bits,IntKind.signed];omega
     cases hl:js c3.toNat
     ·rw[hl]at cl;by_cases hc:c3=46
      ·rw[if_pos (by unfold qU;rw[hc];rfl)]at hS;have Gg:((c3.toNat:Int) == 46)=true:=ow;have HS:=Qh hS;clear hc hS HN hl;go_wp2_with fail;with_reducible refine(cl _).mono ?_
       rintro e w3 ⟨rfl,rfl⟩;go_wp2_with fail;go_ret;exact⟨rO,aM.o⟩
      ·rw[if_neg (by unfold qU;rw[hl];simpa using hc)]at hS;have Gg:((c3.toNat:Int) == 46)=false:=E5 (m:=46) ah hc;have HS:=Qh hS;clear hc hS HN hl;go_wp2_with fail;with_reducible refine(cl _).mono ?_
       rintro e w3 ⟨rfl,rfl⟩;go_wp2_with fail;go_ret;exact⟨rO,aM.o⟩
     ·rw[hl]at cl;rw[if_pos (by unfold qU;rw[hl];rfl)]at hS;have HS:=Qh hS;clear hS HN hl;go_wp2_with fail;with_reducible refine(cl _).mono ?_
      rintro e w3 ⟨rfl,rfl⟩;go_wp2_with fail;go_ret;exact⟨rO,aM.o⟩
   ·have HS:=Qh (show T=n2 by rw[HN.o];exact MN ae);clear HN;go_wp2_with fail;go_ret;exact⟨rO,aM.o⟩
 ·have HS:=Qh (show T=n1 by rw[HN.o];exact WJ ae);clear HN;go_wp2_with fail;go_ret;exact⟨rO,aM.o⟩
end Go.Proofs.YtfflljgnpfldfaaGreatDoor
