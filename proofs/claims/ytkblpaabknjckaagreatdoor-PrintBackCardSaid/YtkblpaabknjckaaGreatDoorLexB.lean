/-
  lex.number: contract.
-/
import Derived.Test.YtkblpaabknjckaaGreatDoorBaseD
import Derived.RangeFuncNested
import Derived.RangeFuncBound
import Derived.RangeFuncCalls
import Derived.RangeFuncLeaves
import Derived.RangeFuncFrom
import Derived.WalkKit
import Derived.Test.YtkblpaabknjckaaGreatDoorLexM
import Derived.Test.YtkblpaabknjckaaGreatDoorShelfV
import Derived.Shelf.Abstract
import Derived.Shelf.RegionOpen
import Derived.OwnWalkIn
import Derived.TacticsInMore
import Derived.LoopNIn
import Derived.LoopIn
import Derived.Lib.OthersKept
import Derived.Test.YtkblpaabknjckaaGreatDoorParR
import Derived.Test.YtkblpaabknjckaaGreatDoorRatD
import Derived.Deep.Cut
import Derived.Deep.DeepCutAuto
set_option maxHeartbeats 128000000
set_option linter.unusedVariables false
namespace Go.Proofs.YtkblpaabknjckaaGreatDoor
open Go.RowKit
structure Beyond (B:Nat) (W W':World):Prop where
 size:W.heap.size≤W'.heap.size
 same:∀ k,B≤k→k < W.heap.size→W'.heap[k]? = W.heap[k]?
theorem Beyond.refl (B:Nat) (W:World):Beyond B W W:=⟨lrf,fun _ _ _=>rfl⟩
theorem Beyond.trans {B:Nat} {X Y Z:World} (h:Beyond B X Y) (k:Beyond B Y Z):Beyond B X Z:=
 ⟨Nat.le_trans h.size k.size,fun i h1 h2=>(k.same i h1 (Nat.lt_of_lt_of_le h2 h.size)).trans (h.same i h1 h2)⟩
theorem Beyond.mono {B B':Nat} {X Y:World} (h:Beyond B X Y) (hB:B≤B'):Beyond B' X Y:=⟨h.size,fun k h1 h2=>h.same k (Nat.le_trans hB h1) h2⟩
theorem Beyond.of_below {B:Nat} {X Y:World} (h:Below X.heap.size X Y):Beyond B X Y:=⟨h.size,fun k _ h2=>h.block k h2⟩
theorem Beyond.setCell {B:Nat} {X Y:World} (h:Beyond B X Y) {p:Addr} (hp:p.block < B) (v:Value):Beyond B X (Y.setCell p v):=
 h.trans ⟨by show Y.heap.size≤(Y.heap.modify _ _).size;rw[Array.size_modify];exact lrf,fun k h1 h2=>Below.heap_setCell Y p v k (by omega)⟩
theorem Beyond.putLow {B l:Nat} {W:World} (o:Obj) (hl:l < B):Beyond B W (W.putObj l o):=
 ⟨by rw[World.putObj_size];exact lrf,fun k h1 h2=>World.putObj_heap_other (by omega)⟩
theorem below_put {B l:Nat} {W:World} (o:Obj) (hl:B≤l):Below B W (W.putObj l o):=
 ⟨rfl,rfl,rfl,by rw[World.putObj_size];exact lrf,fun k hk=>World.putObj_heap_other (by omega)⟩
def LowB (B:Nat) (J:World→Prop):Prop:=∀ W W',J W→Below B W W'→J W'
def IterOwn {α:Type} (F:Fence) (n:Nat) (P:Program) (g:Nat) (lb:Array Value) (encs:α→Array Value) (xs:List α) (w:World):Prop:=
 ∀ (l:Nat) (J:Nat→World→Prop) (Jx:World→Prop) (W:World),Below w.heap.size w W→(∀ k,LowB W.heap.size (J k))→LowB W.heap.size Jx →
  (∀ k (hk:k < xs.length) W1,J k W1→W.heap.size≤W1.heap.size→YieldAt F (n - 1) P l (encs xs[k]) W1 fun e W'=>
   (e=.returned (.bool true)∧J (k+1) W'∧Beyond W.heap.size W1 W')∨(e=.returned (.bool false)∧Jx W')) →
  J 0 W →
  CallsIn F n P g (#[.func (.yield l) #[] #[]]++lb) W fun e W'=>(∃ v,e=.returned v)∧(J xs.length W'∨Jx W')
def roundOwn (B:Nat) (I:World→Prop) (Ix:World→Prop) (W:World):Exit→Act→World→Prop
 | .normal,_,W'=>Beyond B W W'∧I W'
 | .ret,_,W'=>Beyond B W W'∧Ix W'
 | .exit _,_,_=>False
 | .goto _,_,_=>False
 | .panic _,_,_=>False
 | .outgrown,_,_=>False
variable {F:Fence} {n:Nat} {P:Program}
theorem wpIn_rangeOwn {α:Type} {g:Operand} {ps:Array Tmp} {assign body:Code} {Q:Exit→Act→World→Prop} {a:Act} {w:World}
  (hro:F.round=none) (h1:1≤n) {gf:Nat} {lb:Array Value} (hg:a.eval g=.func (.func gf) #[] lb) (hFg:F.fn gf) (eg:∀ args w,(callFunc gf args).run P w=.ok (.enter gf args) w)
  {encs:α→Array Value} {xs:List α} {w0:World} (hseq:IterOwn F (n - 1) P gf lb encs xs w0) (hb0:Below w0.heap.size w0 w) (hps:∀ x,(encs x).size=ps.size)
  (I:Nat→World→Prop) (Ix:World→Prop) (hI:∀ k,LowB w.heap.size (I k)) (hIx:LowB w.heap.size Ix) (h0:I 0 w)
  (Ax:Nat→Act→World→Prop) (hAx:∀ k a' W o,Ax k a' W→Ax k a' (W.putObj (w.heap.size+1) o))
  (hassign:∀ (k:Nat) (hk:k < xs.length) (W:World) (K:Act→World→Prop),I k W→w.heap.size+1 < W.heap.size →
   (∀ a' W',Beyond w.heap.size W W'→I k W'→Ax k a' W'→K a' W') →
   assign.wpIn (F.inRound (w.heap.size+1)) (n - 1 - 1) P (Exit.then K (fun _ _ _=>False)) { tmps:=(ps.zip (encs xs[k])).foldl (fun t (p,v)=>t.setIfInBounds p v) a.tmps,defers:=[] } W)
  (hbody:∀ (k:Nat) (hk:k < xs.length) (a':Act) (W:World),I k W→Ax k a' W→w.heap.size+1 < W.heap.size →
   body.wpIn (F.inRound (w.heap.size+1)) (n - 1 - 1) P (roundOwn w.heap.size (I (k+1)) Ix W) a' W)
  (hdone:∀ (W:World),I xs.length W→W.heap[w.heap.size]? = some (.deferred (some []))→Q .normal { a with defers:={ target:=.collected w.heap.size,args:=#[] } :: a.defers } W)
  (hstop:∀ (W:World),Ix W→W.heap[w.heap.size]? = some (.deferred (some []))→Code.ret.wpIn F n P Q { a with defers:={ target:=.collected w.heap.size,args:=#[] } :: a.defers } W) :
  (Code.rangeFunc g ps assign body).wpIn F n P Q a w:=by
 refine wpIn_rangeFunc fun fn hfn=>?_
 rw[hro];obtain⟨mk,hmk⟩:∃ mk:LoopState→Option Code→Loop,mk=fun st pe=>{ state:=st,pending:=pe,fn,tmps:=a.tmps,params:=ps,assign,body,defers:=w.heap.size }:=⟨_,rfl⟩
 obtain⟨V,hV⟩:∃ V,(w.alloc (.deferred (some []))).alloc (.loop (mk .ready none))=V:=⟨_,rfl⟩
 have hVs:V.heap.size=w.heap.size+2:=(by rw[← hV];simp);have hVl:V.heap[w.heap.size+1]? = some (.loop (mk .ready none)):=by
  have:=World.alloc_heap_new (w.alloc (.deferred (some []))) (.loop (mk .ready none))
  rwa [World.size_alloc,hV]at this
 have hVd:V.heap[w.heap.size]? = some (.deferred (some [])):=by
  rw[← hV];exact(Below.heap_alloc _ _ _ (by simp)).trans (World.alloc_heap_new w _)
 have hwV:Below w.heap.size w V:=(by rw[← hV];exact((Below.refl _ w).alloc lrf _).alloc (by simp) _);refine⟨w.heap.size+1,[{ target:=.collected w.heap.size,args:=#[] }],V,{ target:=.fn (.func gf) lb,args:=#[.func (.yield (w.heap.size+1)) #[] #[]] },V,gf,
  #[.func (.yield (w.heap.size+1)) #[] #[]]++lb,V,?_,?_,?_,?_,fun _=>h1,?_⟩
 ·rw[← hV,hmk];exact run_enterLoop_outer _ _ _ _ _
 ·simp only[resolve,hg];simp[go_sem]
 ·intro f' hf';simp[Target.leads]at hf';subst hf';exact hFg
 ·simp[invoke,go_sem,eg]
 ·have keepL:∀ {W W':World} {k:Nat} {o:Obj},Below V.heap.size W W'→k < w.heap.size+2→W.heap[k]? = some o→W'.heap[k]? = some o:=fun hb hk h=>(hb.block _ (by omega)).trans h
  refine(hseq (w.heap.size+1)
   (fun k W=>I k W∧W.heap[w.heap.size+1]? = some (.loop (mk .ready none))∧W.heap[w.heap.size]? = some (.deferred (some [])))
   (fun W=>Ix W∧W.heap[w.heap.size+1]? = some (.loop (mk .done (some .ret)))∧W.heap[w.heap.size]? = some (.deferred (some [])))
   V (hb0.trans (hwV.mono hb0.size))
   (fun k W W' h hb=>⟨hI k W W' h.1 (hb.mono (by omega)),keepL hb (by omega) h.2.1,keepL hb (by omega) h.2.2⟩)
   (fun W W' h hb=>⟨hIx W W' h.1 (hb.mono (by omega)),keepL hb (by omega) h.2.1,keepL hb (by omega) h.2.2⟩)
   ?_ ⟨hI 0 w V h0 hwV,hVl,hVd⟩).mono ?_
  ·rintro k hk W ⟨hi,hl,hd⟩ hsz;have hy:=run_yield (P:=P) (args:=encs xs[k]) hl (by rw[hmk];exact hps _);rw[hmk]at hy;refine⟨fn,_,assign,body,hy,roundIn_of_wpIn hfn (hassign k hk W _ hi (by omega) ?_)⟩;clear hy;intro a' Wa hba hia hax;have hla:=(hba.same (w.heap.size+1) (by omega) (by omega)).trans hl;have hda:=(hba.same w.heap.size lrf (by omega)).trans hd;refine⟨_,run_beginRound hla (by rw[hmk]),?_⟩;obtain⟨Wb,hWb⟩:∃ Wb,Wa.putObj (w.heap.size+1) (.loop { mk .ready none with state:=.busy })=Wb:=⟨_,rfl⟩
   have hsa:w.heap.size+1 < Wa.heap.size:=(gE hla)
   have hlb:Wb.heap[w.heap.size+1]? = some (.loop { mk .ready none with state:=.busy }):=(by rw[← hWb];exact World.putObj_heap_same hsa);have hdb:Wb.heap[w.heap.size]? = some (.deferred (some [])):=(by rw[← hWb];exact(World.putObj_heap_other (by omega)).trans hda);have hib:I k Wb:=(by rw[← hWb];exact hI k _ _ hia (below_put _ (by omega)));have hxb:Ax k a' Wb:=(by rw[← hWb];exact hAx k a' Wa _ hax);have hsb:w.heap.size+1 < Wb.heap.size:=(by rw[← hWb,World.putObj_size];exact hsa);have hbb:Beyond (w.heap.size+2) W Wb:=(by rw[← hWb];exact(hba.mono (by omega)).trans (Beyond.putLow _ (by omega)));rw[hWb];refine wpIn_mono (hbody k hk a' Wb hib hxb hsb) ?_;have fin:∀ (jump:Option Code) (W3:World),Beyond w.heap.size Wb W3 →
     (Instr.endRound (w.heap.size+1) jump).run P W3=.ok (.bool jump.isNone) (W3.putObj (w.heap.size+1) (.loop (mk (if jump.isNone then .ready else .done) jump))) ∧
     (W3.putObj (w.heap.size+1) (.loop (mk (if jump.isNone then .ready else .done) jump))).heap[w.heap.size+1]? = some (.loop (mk (if jump.isNone then .ready else .done) jump)) ∧
     (W3.putObj (w.heap.size+1) (.loop (mk (if jump.isNone then .ready else .done) jump))).heap[w.heap.size]? = some (.deferred (some [])) ∧
     Beyond V.heap.size W (W3.putObj (w.heap.size+1) (.loop (mk (if jump.isNone then .ready else .done) jump))):=fun jump W3 hb3=>by
    have hl3:=(hb3.same (w.heap.size+1) (by omega) hsb).trans hlb;have hd3:=(hb3.same w.heap.size lrf (by omega)).trans hdb;have hr:=run_endRound (P:=P) jump hl3;have hl4:=hl3;rw[hmk]at hr ⊢;exact⟨hr,World.putObj_heap_same (gE hl4),(World.putObj_heap_other (by omega)).trans hd3,
     by rw[hVs];exact(hbb.trans (hb3.mono (by omega))).trans (Beyond.putLow _ (by omega))⟩
   rintro e a3 W3 hp;cases e with
   | normal=>
    obtain⟨hb3,hi3⟩:=hp;obtain⟨hr,hl4,hd4,hb4⟩:=fin none W3 hb3;exact⟨_,_,hr,.inl ⟨rfl,⟨hI _ _ _ hi3 (below_put _ (by omega)),hl4,hd4⟩,hb4⟩⟩
   | ret=>
    obtain⟨hb3,hi3⟩:=hp;obtain⟨hr,hl4,hd4,hb4⟩:=fin (some .ret) W3 hb3;exact⟨_,_,hr,.inr ⟨rfl,hIx _ _ hi3 (below_put _ (by omega)),hl4,hd4⟩⟩
   | exit id=>exact hp.elim
   | goto t=>exact hp.elim
   | panic ch=>exact hp.elim
   | outgrown=>exact hp.elim
  ·rintro e W2 ⟨⟨v,rfl⟩,(⟨hi,hl,hd⟩|⟨hi,hl,hd⟩)⟩
   ·exact⟨none,_,by have:=run_endLoop (P:=P) hl (by rw[hmk];simp);rw[hmk]at this;exact this,hdone _ (hI _ _ _ hi (below_put _ (by omega))) ((World.putObj_heap_other (by omega)).trans hd)⟩
   ·exact⟨some .ret,_,by have:=run_endLoop (P:=P) hl (by rw[hmk];simp);rw[hmk]at this;exact this,hstop _ (hIx _ _ hi (below_put _ (by omega))) ((World.putObj_heap_other (by omega)).trans hd)⟩
open Go.Proofs.Tryz
open Go.RowKit Go.Shelf
attribute [local go_sem] Oper.semAt_some
theorem Blk.st {w:World} {k:Nat} {cs:Array Value} (h:Blk w k cs) (j:Nat) (v:Value):Blk (w.setCell ⟨k,j,none⟩ v) k (cs.setIfInBounds j v):=by
 obtain⟨T,h⟩:=h;exact⟨T,by simp[World.setCell,Array.getElem?_modify,h]⟩
theorem Blk.same {w w':World} {k:Nat} {cs:Array Value} (h:Blk w k cs) (e:w'.heap[k]? = w.heap[k]?):Blk w' k cs:=by
 obtain⟨T,h⟩:=h;exact⟨T,e.trans h⟩
def encU (u:Unt):Array Value:=#[.agg #[.int .i64 u.line,.int .i64 u.col],.int .i32 (u.rune:Nat)]
def plcU (xs:List Unt):Nat→Int×Int
 | 0=>(1,1)
 | k+1=>nextP (plcU xs k) ((xs[k]?.map Unt.rune).getD 0)
theorem plc_at (s:List UInt8) (k:Nat) (hk:k < (unitsL s).length):(unitsL s)[k].line=(plcU (unitsL s) k).1∧(unitsL s)[k].col=(plcU (unitsL s) k).2:=by
 induction k with
 | zero=>exact(unit_lc_f _ _ _ 0 hk).1 rfl
 | succ k ih=>
  obtain⟨i1,i2⟩:=ih (by omega);have h:=(unit_lc_f s.length s (1,1) k (show k < (unitsL s).length by omega)).2 hk;have e:plcU (unitsL s) (k+1)=nextP ((unitsL s)[k].line,(unitsL s)[k].col) (unitsL s)[k].rune:=by
   show nextP (plcU (unitsL s) k) _=_;rw[i1,i2,List.getElem?_eq_getElem (by omega)];rfl
  rw[e];exact Prod.mk.injEq .. ▸ (show((unitsL s)[k+1].line,(unitsL s)[k+1].col)=(_,_)from h)
theorem ctlU_iff (r:Nat):ctlU r=true↔r < 32∨r=127:=by unfold ctlU;simp
theorem control_any (r:Nat) (w:World) :
  Calls prog 67 #[.int .i32 (r:Nat)] w fun e w'=>e=.returned (.bool (ctlU r))∧w' = w:=by
 have HI:=Qh (ctlU_iff r);generalize ctlU r=b at *;by_cases h1:(r:Int) < 32
 ·have HB:=Qh (show b=true from HI.out.2 (.inl (by omega)));clear HI;go_enter func67,ntmps67
  go_wp2_with fail;go_ret;exact⟨by rw[HB.out]<;>rfl,rfl⟩
 ·by_cases h2:r=127
  ·have HB:=Qh (show b=true from HI.out.2 (.inr h2));have hb:((r:Int) == 127)=true:=(by rw[h2];rfl);clear HI h2;go_enter func67,ntmps67
   go_wp2_with fail;go_ret;exact⟨by rw[HB.out]<;>rfl,rfl⟩
  ·have HB:=Qh (show b=false by rw[Bool.eq_false_iff];intro h;rcases HI.out.1 h with h|h<;>omega);have hb:((r:Int) == 127)=false:=(by rw[beq_eq_false_iff_ne];omega);clear HI h2;go_enter func67,ntmps67
   go_wp2_with fail;go_ret;exact⟨by rw[HB.out]<;>rfl,rfl⟩
theorem blank_any (r:Nat) (w:World) :
  Calls prog 68 #[.int .i32 (r:Nat)] w fun e w'=>e=.returned (.bool (blankU r))∧w' = w:=by
 have e1:((r:Int) == 32)=(r == 32):=(by rw[Bool.eq_iff_iff,beq_iff_eq,beq_iff_eq];omega);have e2:((r:Int) == 9)=(r == 9):=(by rw[Bool.eq_iff_iff,beq_iff_eq,beq_iff_eq];omega);have e3:((r:Int) == 10)=(r == 10):=(by rw[Bool.eq_iff_iff,beq_iff_eq,beq_iff_eq];omega);have e4:((r:Int) == 13)=(r == 13):=(by rw[Bool.eq_iff_iff,beq_iff_eq,beq_iff_eq];omega);have HI:=Qh (show blankU r=(r == 32 || r == 9 || r == 10 || r == 13)from rfl);generalize blankU r=b at *;generalize (r == 32)=b1 at *;generalize (r == 9)=b2 at *;generalize (r == 10)=b3 at *;generalize (r == 13)=b4 at *;cases b1<;>cases b2<;>cases b3<;>cases b4
 all_goals
  have HB:=Qh HI.out;clear HI;go_enter func68,ntmps68
  go_wp2_with fail;go_ret;exact⟨by rw[HB.out]<;>rfl,rfl⟩
theorem all_any (s:ByteArray) (w:World) :
  Calls prog 64 #[.string s] w fun e w'=>e=.returned (.func (.func 97) #[] #[.pointer (some ⟨w.heap.size,0,none⟩)])∧w' = w.alloc (.cells #[.string s] 9):=by
 go_enter func64,ntmps64
 go_wp2_with fail;go_ret;exact⟨rfl,rfl⟩
set_option maxRecDepth 100000 in theorem all1_own (s : List UInt8) (hs : s.length ≤ 1048576) (bs : Nat) (w : World) (hb : bs < w.heap.size) (hc : w.cell? ⟨bs, 0, none⟩ = some (.string ⟨s.toArray⟩)) (n : Nat) (hn : 1 ≤ n) :
  IterOwn Fence.wide n prog 97 #[.pointer (some ⟨bs,0,none⟩)] encU (unitsL s) w:=by
 intro l J Jx W hW hJ hJx hY h0;have hcW:W.cell? ⟨bs,0,none⟩=some (.string ⟨s.toArray⟩):=(hW.cell (p:=⟨bs,0,none⟩) hb).trans hc;refine callsIn_of_wp func97 rfl trivial ?_ rfl;simp only[ntmps97,List.size_toArray,List.length_cons,List.length_nil,Nat.reduceAdd,Nat.reduceSub,Array.replicate_succ,Array.replicate_zero,List.push_toArray,List.append_toArray,List.nil_append,List.cons_append];have hbW:bs < W.heap.size:=Nat.lt_of_lt_of_le hb hW.size
 gi_wp2
 generalize hxs:unitsL s=xs at *;have hall:=fun k hk=>unit_at s k hk
 have hbd:=fun k hk=>unit_bd s k hk
 have hplc:=fun k hk=>plc_at s k hk
 have htot:=units_all_f s.length s (1,1) lrf;rw[show unitsF s.length s (1,1)=xs from hxs]at htot;rw[hxs]at hall hbd hplc;have hle:xs.length≤s.length:=(by rw[← hxs];exact unitsF_len _ _ _);have HALL:=Qh hall;have HBD:=Qh hbd;have HPL:=Qh hplc;have HTOT:=Qh htot;have HXS:=Qh hxs;clear hall hbd hplc htot hxs;have hb0:Below W.heap.size W ((W.alloc (.cells #[.int .i64 1,.int .i64 1] 29)).iter ⟨s.toArray⟩ 0):=((Below.refl _ W).alloc lrf _).alloc (by simp) _;have ht0:Blk ((W.alloc (.cells #[.int .i64 1,.int .i64 1] 29)).iter ⟨s.toArray⟩ 0) W.heap.size #[.int .i64 1,.int .i64 1]:=(Blk.new W #[.int .i64 1,.int .i64 1] 29).alloc _;have hi0:((W.alloc (.cells #[.int .i64 1,.int .i64 1] 29)).iter ⟨s.toArray⟩ 0).heap[W.heap.size+1]? = some (.stringIter ⟨s.toArray⟩ 0):=by
  have:=World.iter_heap (W.alloc (.cells #[.int .i64 1,.int .i64 1] 29)) ⟨s.toArray⟩ 0
  rwa [World.size_alloc]at this
 have hJ0:=hJ 0 _ _ h0 hb0;generalize (W.alloc (.cells #[.int .i64 1,.int .i64 1] 29)).iter ⟨s.toArray⟩ 0=V at *;clear hcW h0
 gi_loopw [] (fun wr=>∃ k:Nat,k≤xs.length∧wr.heap[W.heap.size+1]? = some (.stringIter ⟨s.toArray⟩ (posU xs k))∧Blk wr W.heap.size #[.int .i64 (plcU xs k).1,.int .i64 (plcU xs k).2]∧J k wr)
  (fun wr=>s.length - wr.iterPos (W.heap.size+1))
 case atStart=>exact⟨0,Nat.zero_le _,by rw[posU_zero];exact hi0,ht0,hJ0⟩
 case round=>
  obtain⟨k,hk,hit,hpl,hj⟩:=hrel;clear hi0 ht0 hJ0 hb0;have hst:W.heap.size+1 < wr.heap.size:=(gE hit)
  by_cases hlt:k < xs.length
  ·obtain⟨u1,u2,u3⟩:=HALL.out k hlt;obtain⟨d1,d2,d3,d4⟩:=HBD.out k hlt;obtain⟨p1,p2⟩:=HPL.out k hlt;have hps:posU xs k < (⟨s.toArray⟩:ByteArray).size:=u1;have hnx:∀ ty,(Instr.next (.pointer (some ⟨W.heap.size+1,0,none⟩)) true ty).run prog wr=_:=fun ty=>Lib.run_next_any_at wr (W.heap.size+1) ⟨s.toArray⟩ (posU xs k) ty hit hps
   rw[dec_drop,← u2,← u3]at hnx;have hit2:=Lib.iterAt_heap wr (W.heap.size+1) ⟨s.toArray⟩ (posU xs k) (posU xs (k+1)) hit;have hpos:=posU_succ xs k hlt;have hmz:(wr.iterPos (W.heap.size+1))=posU xs k:=iterPos_of hit;rw[← hpos]at hnx;have hsz2:=Lib.iterAt_size wr (W.heap.size+1) ⟨s.toArray⟩ (posU xs (k+1));have hbel:Below W.heap.size wr (wr.iterAt (W.heap.size+1) ⟨s.toArray⟩ (posU xs (k+1))):=Lib.below_iterAt (Below.refl _ _) (by omega) _ _;have hpl2:Blk (wr.iterAt (W.heap.size+1) ⟨s.toArray⟩ (posU xs (k+1))) W.heap.size #[.int .i64 (plcU xs k).1,.int .i64 (plcU xs k).2]:=hpl.same (Lib.iterAt_other _ _ _ _ _ (by omega));have hj2:=hJ k _ _ hj hbel;have HM:=Qh hmz;have HPOS:=Qh hpos;have hplc2:plcU xs (k+1)=nextP (plcU xs k) xs[k].rune:=(by show nextP (plcU xs k) _=_;rw[List.getElem?_eq_getElem hlt];rfl);have HP2:=Qh hplc2;have hu1:posU xs k < s.length:=u1;have HU:=Qh hu1;clear hmz hpos hplc2 hps u1 u2 u3 hu1;obtain⟨wv,hwv⟩:∃ x,wr.iterAt (W.heap.size+1) ⟨s.toArray⟩ (posU xs (k+1))=x:=⟨_,rfl⟩
   rw[hwv]at hnx hit2 hsz2 hbel hpl2 hj2;have hst2:W.heap.size+1 < wv.heap.size:=(by rw[hsz2];exact hst);clear hwv hsz2 hbel hpl hit hj;rw[← p1,← p2]at hpl2;obtain⟨fn,tmps,assign,body,hy,hR⟩:=hY k hlt wv hj2 (by omega);have hy2:(Instr.yield l #[.agg #[.int .i64 xs[k].line,.int .i64 xs[k].col],.int .i32 (xs[k].rune:Nat)]).run prog wv=_:=hy;have HPE:=Qh p1;have HPF:=Qh p2;clear hy p1 p2;generalize xs[k].line=L at *;generalize xs[k].col=C at *;generalize xs[k].rune=R at *;obtain⟨c0,c1,_,_⟩:=hpl2.two
   gi_wp2
   refine hR.mono ?_;rintro e W' (⟨rfl,hj3,hk3⟩|⟨rfl,hx3⟩)
   ·have hit3:=(hk3.same (W.heap.size+1) (by omega) (by omega)).trans hit2;have hpl3:Blk W' W.heap.size _:=hpl2.same (hk3.same _ lrf (by omega));have hst3:W.heap.size+1 < W'.heap.size:=Nat.lt_of_lt_of_le hst2 hk3.size;have hw3:=HALL.out k hlt;have hwd:=(dec_w (s.drop (posU xs k))).1;rw[← hw3.2.2]at hwd;clear hy2 hR hk3 hit2 hpl2 hj2 c0 c1 hnx hw3 hY;obtain⟨c0,c1,f0,f1⟩:=hpl3.two;have HW3:=Qh hwd;clear hwd;by_cases hr10:R=10
    ·have hb1:((R:Int) == 10)=true:=(by rw[hr10];rfl);have HR:=Qh hr10;clear hr10
     gi_wp2
     have hbl:Below W.heap.size W' (((W'.setCell ⟨W.heap.size,1,none⟩ (.int .i64 (C+1))).setCell ⟨W.heap.size,0,none⟩ (.int .i64 (L+1))).setCell ⟨W.heap.size,1,none⟩ (.int .i64 1)):=(((Below.refl W.heap.size W').setCell (p:=⟨W.heap.size,1,none⟩) lrf _).setCell (p:=⟨W.heap.size,0,none⟩) lrf _).setCell (p:=⟨W.heap.size,1,none⟩) lrf _;go_roundw;case rel=>
      refine⟨k+1,hlt,?_,?_,hJ (k+1) _ _ hj3 hbl⟩
      ·rw[← hit3];simp[World.setCell,Array.getElem?_modify]
      ·have:=((hpl3.st 1 (.int .i64 (C+1))).st 0 (.int .i64 (L+1))).st 1 (.int .i64 1);rw[HP2.out,HR.out];unfold nextP;rw[if_pos rfl,← HPE.out];exact this
     case measure=>
      rw[iterPos_of (p:=posU xs (k+1)) (s:=⟨s.toArray⟩) (by rw[← hit3];simp[World.setCell,Array.getElem?_modify]),HM.out];have h1:=HPOS.out;have h2:=HW3.out;have h3:=HU.out;omega
    ·have hb1:((R:Int) == 10)=false:=(by rw[beq_eq_false_iff_ne];omega);have HR:=Qh hr10;clear hr10
     gi_wp2
     have hbl:Below W.heap.size W' (W'.setCell ⟨W.heap.size,1,none⟩ (.int .i64 (C+1))):=(Below.refl W.heap.size W').setCell (p:=⟨W.heap.size,1,none⟩) lrf _;go_roundw;case rel=>
      refine⟨k+1,hlt,?_,?_,hJ (k+1) _ _ hj3 hbl⟩
      ·rw[← hit3];simp[World.setCell,Array.getElem?_modify]
      ·have:=hpl3.st 1 (.int .i64 (C+1));rw[HP2.out];unfold nextP;rw[if_neg HR.out,← HPE.out,← HPF.out];exact this
     case measure=>
      rw[iterPos_of (p:=posU xs (k+1)) (s:=⟨s.toArray⟩) (by rw[← hit3];simp[World.setCell,Array.getElem?_modify]),HM.out];have h1:=HPOS.out;have h2:=HW3.out;have h3:=HU.out;omega
   ·clear hy2 hR c0 c1 hnx
    gi_wp2
    refine bodyPost_ret (results_none rfl _ _ _) rfl ?_;exact⟨⟨_,rfl⟩,.inr hx3⟩
  ·have hkl:k=xs.length:=(by omega);subst hkl;have hps:¬ posU xs xs.length < (⟨s.toArray⟩:ByteArray).size:=(by rw[HTOT.out];exact Nat.lt_irrefl _);have hnx:∀ ty,(Instr.next (.pointer (some ⟨W.heap.size+1,0,none⟩)) true ty).run prog wr=_:=fun ty=>Lib.run_next_end_at wr (W.heap.size+1) ⟨s.toArray⟩ (posU xs xs.length) ty hit hps
   clear hps hY
   gi_wp2
   go_end0
   exact⟨⟨_,rfl⟩,.inl (by rw[HXS.out];exact hj)⟩
def ltU (r:Nat):Bool:=(decide (97≤r) && decide (r≤122)) || (decide (65≤r) && decide (r≤90)) || r == 95
def dgU (r:Nat):Bool:=decide (48≤r) && decide (r≤57)
theorem isDg_U (c:UInt8):isDg c=dgU c.toNat:=rfl
theorem ltU_iff (r:Nat):ltU r=true↔(97≤r∧r≤122)∨(65≤r∧r≤90)∨r=95:=by unfold ltU;simp[or_assoc]
theorem dgU_iff (r:Nat):dgU r=true↔48≤r∧r≤57:=by unfold dgU;simp
theorem ltU_low {r:Nat} (h:ltU r=true):r < 128:=by rcases (ltU_iff r).1 h with h|h|h<;>omega
theorem dgU_low {r:Nat} (h:dgU r=true):r < 128:=by have:=(dgU_iff r).1 h;omega
theorem letter_any (r:Nat) (w:World) :
  Calls prog 69 #[.int .i32 (r:Nat)] w fun e w'=>e=.returned (.bool (ltU r))∧w' = w:=by
 have HI:=Qh (ltU_iff r);generalize ltU r=b at *;have fin:∀ v:Bool,(v=true↔(97≤r∧r≤122)∨(65≤r∧r≤90)∨r=95)→b=v:=fun v hv=>by rw[Bool.eq_iff_iff,HI.out,hv]
 by_cases h1:(97:Int)≤r
 ·by_cases h2:(r:Int)≤122
  ·have HB:=Qh (fin true (by simp;omega));clear HI fin;go_enter func69,ntmps69
   go_wp2_with fail;go_ret;exact⟨by rw[HB.out]<;>rfl,rfl⟩
  ·have HB:=Qh (fin false (by simp;omega));have h3:(65:Int)≤r:=(by omega);have h4:¬ (r:Int)≤90:=(by omega);have h5:((r:Int) == 95)=false:=(by rw[beq_eq_false_iff_ne];omega);clear HI fin;go_enter func69,ntmps69
   go_wp2_with fail;go_ret;exact⟨by rw[HB.out]<;>rfl,rfl⟩
 ·by_cases h3:(65:Int)≤r
  ·by_cases h4:(r:Int)≤90
   ·have HB:=Qh (fin true (by simp;omega));clear HI fin;go_enter func69,ntmps69
    go_wp2_with fail;go_ret;exact⟨by rw[HB.out]<;>rfl,rfl⟩
   ·by_cases h6:r=95
    ·have HB:=Qh (fin true (by simp;omega));have h5:((r:Int) == 95)=true:=(by rw[h6];rfl);clear HI fin h6;go_enter func69,ntmps69
     go_wp2_with fail;go_ret;exact⟨by rw[HB.out]<;>rfl,rfl⟩
    ·have HB:=Qh (fin false (by simp;omega));have h5:((r:Int) == 95)=false:=(by rw[beq_eq_false_iff_ne];omega);clear HI fin h6;go_enter func69,ntmps69
     go_wp2_with fail;go_ret;exact⟨by rw[HB.out]<;>rfl,rfl⟩
  ·have HB:=Qh (fin false (by simp;omega));have h5:((r:Int) == 95)=false:=(by rw[beq_eq_false_iff_ne];omega);clear HI fin;go_enter func69,ntmps69
   go_wp2_with fail;go_ret;exact⟨by rw[HB.out]<;>rfl,rfl⟩
theorem ldigit_any (r:Nat) (w:World) :
  Calls prog 70 #[.int .i32 (r:Nat)] w fun e w'=>e=.returned (.bool (dgU r))∧w' = w:=by
 have HI:=Qh (dgU_iff r);generalize dgU r=b at *;have fin:∀ v:Bool,(v=true↔48≤r∧r≤57)→b=v:=fun v hv=>by rw[Bool.eq_iff_iff,HI.out,hv]
 by_cases h1:(48:Int)≤r
 ·by_cases h2:(r:Int)≤57
  ·have HB:=Qh (fin true (by simp;omega));clear HI fin;go_enter func70,ntmps70
   go_wp2_with fail;go_ret;exact⟨by rw[HB.out]<;>rfl,rfl⟩
  ·have HB:=Qh (fin false (by simp;omega));clear HI fin;go_enter func70,ntmps70
   go_wp2_with fail;go_ret;exact⟨by rw[HB.out]<;>rfl,rfl⟩
 ·have HB:=Qh (fin false (by simp;omega));clear HI fin;go_enter func70,ntmps70
  go_wp2_with fail;go_ret;exact⟨by rw[HB.out]<;>rfl,rfl⟩
def sgnN:List UInt8→Nat
 | []=>0
 | c::_=>if isSg c=true then 1 else 0
theorem signed_any (s:List UInt8) (w:World) :
  Calls prog 99 #[.string ⟨s.toArray⟩] w fun e w'=>e=.returned (.int .i64 (sgnN s:Nat))∧w' = w:=by
 by_cases h0:s=[]
 ·subst h0;go_enter func99,ntmps99
  go_wp2_with fail;go_ret;exact⟨rfl,rfl⟩
 ·have hpos:0 < s.length:=List.length_pos_iff.2 h0;have hne:s.isEmpty=false:=(by cases s<;>first|rfl|exact absurd rfl h0);have hget:(⟨s.toArray⟩:ByteArray)[0]'hpos=s[0]:=rfl;have hsg:sgnN s=if isSg s[0]=true then 1 else 0:=(by cases s<;>first|rfl|exact absurd rfl h0);have e43:UInt8.toNat 43=43:=rfl;have e45:UInt8.toNat 45=45:=rfl;generalize s[0]=c at *;generalize sgnN s=T at *;clear h0;by_cases h1:c=43
  ·have HT:=Qh (show T=1 by rw[hsg,h1];rfl);have g1:((c.toNat:Int) == 43)=true:=(by rw[h1];rfl);clear hsg h1;go_enter func99,ntmps99
   go_wp2_with fail;go_ret;exact⟨by rw[HT.out]<;>rfl,rfl⟩
  ·have g1:((c.toNat:Int) == 43)=false:=(by rw[beq_eq_false_iff_ne];intro h;exact h1 (UInt8.toNat.inj (by omega)));by_cases h2:c=45
   ·have HT:=Qh (show T=1 by rw[hsg,h2];rfl);have g2:((c.toNat:Int) == 45)=true:=(by rw[h2];rfl);clear hsg h1 h2;go_enter func99,ntmps99
    go_wp2_with fail;go_ret;exact⟨by rw[HT.out]<;>rfl,rfl⟩
   ·have g2:((c.toNat:Int) == 45)=false:=(by rw[beq_eq_false_iff_ne];intro h;exact h2 (UInt8.toNat.inj (by omega)));have HT:=Qh (show T=0 by rw[hsg,if_neg];unfold isSg;simp[h1,h2]);clear hsg h1 h2;go_enter func99,ntmps99
    go_wp2_with fail;go_ret;exact⟨by rw[HT.out]<;>rfl,rfl⟩
set_option maxRecDepth 100000 in theorem digitsN_any (s : List UInt8) (hs : s.length ≤ 1000000000) (w : World) :
  Calls prog 100 #[.string ⟨s.toArray⟩] w fun e w'=>e=.returned (.int .i64 ((tw s).length:Nat))∧Below w.heap.size w w':=by
 obtain⟨T,hT⟩:∃ T,T=(tw s).length:=⟨_,rfl⟩
 rw[← hT];have hb0:Below w.heap.size w (w.iter ⟨s.toArray⟩ 0):=(Below.refl _ _).alloc lrf _;have hi0:=World.iter_heap w ⟨s.toArray⟩ 0;have HT:=Qh hT;clear hT;go_enter func100,ntmps100
 go_wp2_with fail;generalize w.iter ⟨s.toArray⟩ 0=V at *;go_loopw [] (fun wr=>∃ k:Nat,k≤s.length∧T=k+(tw (s.drop k)).length∧wr.heap[w.heap.size]? = some (.stringIter ⟨s.toArray⟩ k)∧Below w.heap.size w wr) (fun wr=>s.length - wr.iterPos w.heap.size)
 case atStart=>exact⟨0,Nat.zero_le _,by rw[HT.out];simp,hi0,hb0⟩
 case round=>
  clear hi0 hb0 HT;obtain⟨k,hk,hTk,hit,hbw⟩:=hrel;have hmz:wr.iterPos w.heap.size=k:=iterPos_of hit;by_cases hlt:k < s.length
  ·have hps:k < (⟨s.toArray⟩:ByteArray).size:=hlt;have hnx:∀ ty,(Instr.next (.pointer (some ⟨w.heap.size,0,none⟩)) true ty).run prog wr=_:=fun ty=>Lib.run_next_any_at wr w.heap.size ⟨s.toArray⟩ k ty hit hps
   rw[dec_drop]at hnx;have hd:=List.drop_eq_getElem_cons hlt;rw[hd]at hTk hnx;generalize s[k]=c at *;cases hc:dgU (decL (c::s.drop (k+1))).1
   ·have hcd:isDg c=false:=by
     rw[Bool.eq_false_iff];intro h;have h2:=dgU_low (show dgU c.toNat=true from h);rw[dec_ascii c _ h2]at hc;rw[isDg_U]at h;rw[h]at hc;cases hc
    rw[tw_stop hcd]at hTk;have HTK:=Qh (show T=k from hTk);have hbw2:=Lib.below_iterAt hbw (k:=w.heap.size) lrf ⟨s.toArray⟩ (k+(decL (c::s.drop (k+1))).2);have cd:=ldigit_any (decL (c::s.drop (k+1))).1;rw[hc]at cd;clear hd hTk hc hcd hmz hps;generalize (decL (c::s.drop (k+1))).1=R at *;generalize (decL (c::s.drop (k+1))).2=N at *;generalize wr.iterAt w.heap.size ⟨s.toArray⟩ (k+N)=wv at *;go_wp2_with fail;with_reducible refine(cd _).mono ?_
    rintro e w1 ⟨rfl,rfl⟩;go_wp2_with fail;go_ret;exact⟨by rw[HTK.out]<;>rfl,hbw2⟩
   ·obtain⟨hde,hlo⟩:=dec_low c (s.drop (k+1)) (dgU_low hc);rw[hde]at hnx hc;have hcd:isDg c=true:=hc;rw[tw_cons hcd]at hTk;have HTK:=Qh (show T=k+1+(tw (s.drop (k+1))).length by rw[hTk,List.length_cons];omega);have hbw2:=Lib.below_iterAt hbw (k:=w.heap.size) lrf ⟨s.toArray⟩ (k+1);have hit2:=Lib.iterAt_heap wr w.heap.size ⟨s.toArray⟩ k (k+1) hit;have cd:=ldigit_any c.toNat;rw[hc]at cd;have HM:=Qh hmz;clear hd hTk hc hcd hmz hps hde hlo;simp only at hnx;generalize wr.iterAt w.heap.size ⟨s.toArray⟩ (k+1)=wv at *;go_wp2_with fail;with_reducible refine(cd _).mono ?_
    rintro e w1 ⟨rfl,rfl⟩;go_wp2_with fail;go_roundw;case rel=>exact⟨k+1,by omega,HTK.out,hit2,hbw2⟩
    case measure=>rw[iterPos_of hit2,HM.out];omega
  ·have HTK:=Qh (show T=k by rw[hTk,show k=s.length by omega,List.drop_length];rfl);have hps:¬ k < (⟨s.toArray⟩:ByteArray).size:=hlt;have hnx:∀ ty,(Instr.next (.pointer (some ⟨w.heap.size,0,none⟩)) true ty).run prog wr=_:=fun ty=>Lib.run_next_end_at wr w.heap.size ⟨s.toArray⟩ k ty hit hps
   have hks:(s.length:Int)=k:=(by omega);have HKS:=Qh hks;clear hTk hps hmz hks;go_wp2_with fail;go_ret;exact⟨by rw[HTK.out];exact congrArg _ (by show Value.int _ _=Value.int _ _;rw[HKS.out]),hbw⟩
attribute [local go_sem] Oper.semAt_some
def faultV (no line col:Int):Value:=.iface 52 (.agg #[.int .i64 no,.int .i64 line,.int .i64 col])
def checkV (s:List UInt8):Value:=
 if 1048576 < s.length then errV 5 else match checkL s with
  | none=>.nilIface
  | some u=>faultV 6 u.line u.col
theorem ext_from (L:List UInt8) (i:Nat) (hi:i≤L.length):(⟨L.toArray⟩:ByteArray).extract i L.length=⟨(L.drop i).toArray⟩:=by
 have h:∀ (a b:ByteArray),a.data.toList=b.data.toList→a=b:=fun a b e=>by cases a;cases b;simp at e;rw[e]
 apply h;rw[Go.Lib.extract_data];show(L.drop i).take (L.length - i)=L.drop i;rw[List.take_of_length_le (by rw[List.length_drop];exact lrf)]
theorem find_none {xs:List Unt} (h:∀ j (hj:j < xs.length),badU xs[j].rune xs[j].wide=false):xs.find? (fun u=>badU u.rune u.wide)=none:=by
 rw[List.find?_eq_none];intro u hu;obtain⟨j,hj,rfl⟩:=List.getElem_of_mem hu;rw[h j hj];decide
theorem find_some {xs:List Unt} {k:Nat} (hk:k < xs.length) (hb:badU xs[k].rune xs[k].wide=true) (h:∀ j (hj:j < xs.length),j < k→badU xs[j].rune xs[j].wide=false):xs.find? (fun u=>badU u.rune u.wide)=some xs[k]:=by
 rw[List.find?_eq_some_iff_getElem];exact⟨hb,k,hk,rfl,fun j hj=>by rw[h j (by omega) hj];rfl⟩
theorem hasPre (l:List UInt8):Lib.hasPrefix l [239,191,189]=true↔3≤l.length∧(l.getD 0 0).toNat=239∧(l.getD 1 0).toNat=191∧(l.getD 2 0).toNat=189:=by
 have e:∀ (a:UInt8) (n:Nat),n < 256→(a.toNat=n↔a=UInt8.ofNat n):=fun a n hn=>⟨fun h=>by rw[← h,UInt8.ofNat_toNat],fun h=>by rw[h,UInt8.toNat_ofNat_of_lt' (by simpa using hn)]⟩
 rcases l with _|⟨a,_|⟨b,_|⟨c,t⟩⟩⟩
 ·simp[Lib.hasPrefix]
 ·simp[Lib.hasPrefix]
 ·simp[Lib.hasPrefix]
 ·simp only[List.length_cons,List.getD_cons_zero,List.getD_cons_succ,e a 239 (by decide),e b 191 (by decide),e c 189 (by decide)];show List.isPrefixOf [239,191,189] (a::b::c::t)=true↔_;rw[List.isPrefixOf_iff_prefix];constructor
  ·rintro⟨m,hm⟩;simp only[List.cons_append,List.nil_append,List.cons.injEq]at hm;obtain⟨h1,h2,h3,_⟩:=hm;exact⟨by omega,h1.symm,h2.symm,h3.symm⟩
  ·rintro⟨_,h1,h2,h3⟩;subst h1 h2 h3;exact⟨t,rfl⟩
theorem unit_kind (l:List UInt8) (hl:l≠[]):((decL l).1≠65533∧Lib.runeLen ((decL l).1:Int)=((decL l).2:Int)∧badU (decL l).1 (decL l).2=(ctlU (decL l).1 && !blankU (decL l).1)) ∨
  ((decL l).1=65533∧(decL l).2=3∧Lib.hasPrefix l [239,191,189]=true∧badU (decL l).1 (decL l).2=false) ∨
  ((decL l).1=65533∧(decL l).2=1∧Lib.hasPrefix l [239,191,189]=false∧badU (decL l).1 (decL l).2=true):=by
 by_cases h:(decL l).1=65533
 ·right
  rcases decN_ill l.length (l.getD 0 0).toNat (l.getD 1 0).toNat (l.getD 2 0).toNat (l.getD 3 0).toNat (UInt8.toNat_lt _) (UInt8.toNat_lt _) (UInt8.toNat_lt _) h with ⟨h1,h2⟩|⟨h1,h2⟩
  ·right
   have e2:(decL l).2=1:=h1;refine⟨h,e2,?_,?_⟩
   ·rw[Bool.eq_false_iff];intro h3;exact h2 ((hasPre l).1 h3)
   ·unfold badU illU;rw[h,e2];rfl
  ·left
   have e2:(decL l).2=3:=h1;refine⟨h,e2,(hasPre l).2 h2,?_⟩;unfold badU illU;rw[h,e2];rfl
 ·left
  have hi:illU (decL l).1 (decL l).2=false:=(by unfold illU;rw[bN h];rfl);exact⟨h,dec_wid l hi,by unfold badU;rw[hi];rfl⟩
def ChkI (s:List UInt8) (w:World) (k:Nat) (W:World):Prop:=
 (Below w.heap.size w W∧Blk W w.heap.size #[.string ⟨s.toArray⟩]∧Blk W (w.heap.size+1) #[.nilIface]∧Blk W (w.heap.size+1+1) #[.int .i64 (posU (unitsL s) k:Nat)]) ∧
  ∀ j (hj:j < (unitsL s).length),j < k→badU (unitsL s)[j].rune (unitsL s)[j].wide=false
def ChkX (s:List UInt8) (w:World) (W:World):Prop:=Below w.heap.size w W∧∃ u,checkL s=some u∧Blk W (w.heap.size+1) #[faultV 6 u.line u.col]
def ChkA (s:List UInt8) (w:World) (B:Nat) (k:Nat) (a':Act) (W:World):Prop:=
 ∃ (b:Nat) (L C:Int) (R:Nat),B < b∧(∀ h:k < (unitsL s).length,L=(unitsL s)[k].line∧C=(unitsL s)[k].col∧R=(unitsL s)[k].rune)∧Blk W b #[.int .i64 L,.int .i64 C] ∧
  a' = { tmps:=#[.string ⟨s.toArray⟩,.pointer (some ⟨w.heap.size,0,none⟩),.pointer (some ⟨w.heap.size+1,0,none⟩),.pointer (some ⟨w.heap.size+1+1,0,none⟩),.pointer (some ⟨b,0,none⟩),.int .i32 (R:Nat),undef,.string ⟨s.toArray⟩,.int .i64 (s.length:Nat),.bool false,undef,.string ⟨s.toArray⟩,.func (.func 97) #[] #[.pointer (some ⟨w.heap.size+1+1+1,0,none⟩)],.agg #[.int .i64 L,.int .i64 C],.int .i32 (R:Nat),undef,undef,undef,undef,undef,undef,undef,undef,undef,undef,undef,undef,undef,undef,undef,undef,undef,undef,undef,undef,undef,undef,undef,undef,undef,undef,undef,undef,undef,undef,undef,undef,undef,undef],defers:=[] }
theorem keepLow {V W W':World} {j:Nat} {cs:Array Value} (hb:Below V.heap.size W W') (hj:j < V.heap.size) (h:Blk W j cs):Blk W' j cs:=h.same (hb.block _ hj)
theorem ChkI.low {s:List UInt8} {w V:World} (hV:V.heap.size=w.heap.size+1+1+1+1) (k:Nat):LowB V.heap.size (ChkI s w k):=fun W W' h hb=>
 ⟨⟨h.1.1.trans (hb.mono (by omega)),keepLow hb (by omega) h.1.2.1,keepLow hb (by omega) h.1.2.2.1,keepLow hb (by omega) h.1.2.2.2⟩,h.2⟩
theorem ChkX.low {s:List UInt8} {w V:World} (hV:V.heap.size=w.heap.size+1+1+1+1):LowB V.heap.size (ChkX s w):=fun W W' h hb=>
 ⟨h.1.trans (hb.mono (by omega)),let ⟨u,h1,h2⟩:=h.2;⟨u,h1,keepLow hb (by omega) h2⟩⟩
set_option maxRecDepth 100000 in theorem check_short (s : List UInt8) (hs : s.length ≤ 1048576) (w : World) :
  Calls prog 31 #[.string ⟨s.toArray⟩] w fun e w'=>e=.returned (checkV s)∧Below w.heap.size w w':=by
 have hl:¬ (1048576:Int) < s.length:=(by omega);refine(callsIn_wide (n:=9)).1 ?_;refine callsIn_of_wp_marks func31 rfl trivial ?_ rfl;simp only[ntmps31,List.size_toArray,List.length_cons,List.length_nil,Nat.reduceAdd,Nat.reduceSub,Array.replicate_succ,Array.replicate_zero,List.push_toArray,List.append_toArray,List.nil_append,List.cons_append]
 gi_wp2_with (refine⟨trivial,?_⟩;gi_at_call 64;refine(callsIn_wide.2 (all_any _ _)).mono ?_;rintro e w' ⟨rfl,rfl⟩)
 obtain⟨V0,hV0⟩:∃ x,((w.alloc (.cells #[.string ⟨s.toArray⟩] 9)).alloc (.cells #[.nilIface] 25)).alloc (.cells #[.int .i64 0] 3)=x:=⟨_,rfl⟩
 have b1:Blk V0 w.heap.size #[.string ⟨s.toArray⟩]:=(by rw[← hV0];exact((Blk.new w _ _).alloc _).alloc _);have b2:Blk V0 (w.heap.size+1) #[.nilIface]:=by
  rw[← hV0];have:=Blk.new (w.alloc (.cells #[.string ⟨s.toArray⟩] 9)) #[.nilIface] 25;rw[World.size_alloc]at this;exact this.alloc _
 have b3:Blk V0 (w.heap.size+1+1) #[.int .i64 0]:=by
  rw[← hV0];have:=Blk.new ((w.alloc (.cells #[.string ⟨s.toArray⟩] 9)).alloc (.cells #[.nilIface] 25)) #[.int .i64 0] 3;rw[World.size_alloc,World.size_alloc]at this;exact this
 have hz:V0.heap.size=w.heap.size+1+1+1:=(by rw[← hV0];simp);have hb0:Below w.heap.size w V0:=(by rw[← hV0];exact(((Below.refl _ w).alloc lrf _).alloc (by simp) _).alloc (by simp;omega) _);rw[hV0];clear hV0;have b4:=Blk.new V0 #[.string ⟨s.toArray⟩] 9;rw[hz]at b4;have hz1:(V0.alloc (.cells #[.string ⟨s.toArray⟩] 9)).heap.size=w.heap.size+1+1+1+1:=(by simp[hz]);replace hb0:Below w.heap.size w (V0.alloc (.cells #[.string ⟨s.toArray⟩] 9)):=hb0.alloc (by omega) _;replace b1:=b1.alloc (.cells #[.string ⟨s.toArray⟩] 9);replace b2:=b2.alloc (.cells #[.string ⟨s.toArray⟩] 9);replace b3:=b3.alloc (.cells #[.string ⟨s.toArray⟩] 9);generalize V0.alloc (.cells #[.string ⟨s.toArray⟩] 9)=V at *;clear hz;have HZ:=Qh hz1;have h0:ChkI s w 0 V:=⟨⟨hb0,b1,b2,by rw[posU_zero];exact b3⟩,fun j hj h=>absurd h (Nat.not_lt_zero _)⟩
 have hall:=all1_own s hs (w.heap.size+1+1+1) V (by omega) (b4.cell 0 _ rfl) (9 - 1) (by decide);clear hz1 b1 b2 b3 b4 hb0 hl;refine wpIn_rangeOwn rfl (by decide) (gf:=97) (lb:=#[.pointer (some ⟨w.heap.size+1+1+1,0,none⟩)]) rfl trivial (enters_of func97 (by kernel_rfl) rfl)
  hall (Below.refl _ _) (fun _=>rfl) (ChkI s w) (ChkX s w) (ChkI.low HZ.out) (ChkX.low HZ.out) h0 (ChkA s w (V.heap.size+1))
  (fun k a' W o h=>by
   obtain⟨b,L,C,R,h1,h2,h3,h4⟩:=h;exact⟨b,L,C,R,h1,h2,h3.same (World.putObj_heap_other (by omega)),h4⟩) ?assign ?body ?done ?stop
 case assign=>
  intro k hk W K hi hsz hK;have HI:=Qh hi;have HK:=Qh hK;clear hi hK h0 hall;unfold encU
  gi_wp2
  have hbn:Below W.heap.size W (W.alloc (.cells #[.int .i64 (unitsL s)[k].line,.int .i64 (unitsL s)[k].col] 29)):=(Below.refl _ _).alloc lrf _;exact HK.out _ _ (Beyond.of_below hbn) (ChkI.low HZ.out k _ _ HI.out (hbn.mono (by omega))) ⟨W.heap.size,_,_,_,hsz,fun _=>⟨rfl,rfl,rfl⟩,Blk.new _ _ _,rfl⟩
 case body=>
  intro k hk a' W hi hax hsz;obtain⟨⟨hb,b1,b2,b3⟩,hprev⟩:=hi;obtain⟨b,L,C,R,hB,hu,bb,rfl⟩:=hax;obtain⟨rfl,rfl,rfl⟩:=hu hk;obtain⟨u1,u2,u3⟩:=unit_at s k hk;have hkind:=unit_kind (s.drop (posU (unitsL s) k)) (by intro h;have:=congrArg List.length h;rw[List.length_drop]at this;simp at this;omega);have hw:=(dec_w (s.drop (posU (unitsL s) k)))
  rw[List.length_drop]at hw;have hw3:=hw.2.2 (by intro h;have:=congrArg List.length h;rw[List.length_drop]at this;simp at this;omega);rw[← u2,← u3]at hkind;rw[← u3]at hw3;have hext:=ext_from s (posU (unitsL s) k) (by omega);have hpS:=posU_succ (unitsL s) k hk;have HPREV:=Qh hprev;have HPS:=Qh hpS;have HFS:=Qh (fun hb:badU (unitsL s)[k].rune (unitsL s)[k].wide=true=>(⟨(unitsL s)[k],find_some hk hb hprev,rfl,rfl⟩:∃ u,checkL s=some u∧u.line=(unitsL s)[k].line∧u.col=(unitsL s)[k].col));have HNX:=Qh (fun (hb:badU (unitsL s)[k].rune (unitsL s)[k].wide=false) j (hj:j < (unitsL s).length) (h:j < k+1)=>show badU (unitsL s)[j].rune (unitsL s)[j].wide=false from by
   by_cases hjk:j < k
   ·exact hprev j hj hjk
   ·obtain rfl:j=k:=by omega
    exact hb)
  have HB1:=Qh b1;have HB2:=Qh b2;have HB3:=Qh b3;have HBW:=Qh hb;clear hw u2 u3 hprev hpS h0 hall hu b1 b2 b3 hb;have c1:=HB1.out.cell 0 _ rfl;have c2:=HB2.out.cell 0 _ rfl;have c3:=HB3.out.cell 0 _ rfl;have f2:=HB2.out.free 0;have f3:=HB3.out.free 0;obtain⟨e0,e1,_,_⟩:=bb.two;have cct:=fun w=>control_any (unitsL s)[k].rune w
  have cbl:=fun w=>blank_any (unitsL s)[k].rune w
  have crl:=fun w=>Tryz.utf8_RuneLen ((unitsL s)[k].rune:Int) w
  have chp:=fun w=>Tryz.strings_HasPrefix ⟨(s.drop (posU (unitsL s) k)).toArray⟩ ⟨#[239,191,189]⟩ w
  have hlen:(⟨s.toArray⟩:ByteArray).size=s.length:=rfl;generalize (unitsL s)[k].line=L at *;generalize (unitsL s)[k].col=C at *;generalize (unitsL s)[k].rune=R at *;generalize (unitsL s)[k].wide=N at *;generalize posU (unitsL s) k=ps at *;rcases hkind with ⟨k1,k2,k3⟩|⟨k1,k2,k3,k4⟩|⟨k1,k2,k3,k4⟩
  ·have g1:((R:Int) != 65533)=true:=(by rw[bne_iff_ne];omega);have g2:((R:Int) == 65533)=false:=(by rw[beq_eq_false_iff_ne];omega);rw[k2]at crl;clear k2 k1 chp;cases hc:ctlU R
   ·rw[hc]at cct k3;have HBD:=Qh (show badU R N=false from k3);clear hc k3
    gi_wp2_with (first|(refine⟨trivial,?_⟩;gi_at_call 66;refine(CallsIn.inRound _ (callsIn_wide.2 (crl _))).mono ?_;rintro e w' ⟨rfl,rfl⟩)|(refine⟨trivial,?_⟩;gi_at_call 65;refine(CallsIn.inRound _ (callsIn_wide.2 (chp _))).mono ?_;rintro e w' ⟨rfl,rfl⟩)|(refine⟨trivial,?_⟩;gi_at_call 67;refine(CallsIn.inRound _ (callsIn_wide.2 (cct _))).mono ?_;rintro e w' ⟨rfl,rfl⟩)|(refine⟨trivial,?_⟩;gi_at_call 68;refine(CallsIn.inRound _ (callsIn_wide.2 (cbl _))).mono ?_;rintro e w' ⟨rfl,rfl⟩)|(refine⟨trivial,?_⟩))
    refine⟨(Beyond.refl _ _).setCell (p:=⟨w.heap.size+1+1,0,none⟩) (by have:=HZ.out;show w.heap.size+1+1 < _;omega) _,⟨⟨HBW.out.setCell (p:=⟨w.heap.size+1+1,0,none⟩) (by show _≤w.heap.size+1+1;omega) _,HB1.out.other (a:=⟨w.heap.size+1+1,0,none⟩) (by show w.heap.size+1+1≠_;omega) _,HB2.out.other (a:=⟨w.heap.size+1+1,0,none⟩) (by show w.heap.size+1+1≠_;omega) _,?_⟩,HNX.out HBD.out⟩⟩;rw[HPS.out];exact HB3.out.st 0 _
   ·cases hbk:blankU R
    ·rw[hc]at cct k3;rw[hbk]at cbl k3;have HBD:=Qh (show badU R N=true from k3);clear hc hbk k3
     gi_wp2_with (first|(refine⟨trivial,?_⟩;gi_at_call 66;refine(CallsIn.inRound _ (callsIn_wide.2 (crl _))).mono ?_;rintro e w' ⟨rfl,rfl⟩)|(refine⟨trivial,?_⟩;gi_at_call 65;refine(CallsIn.inRound _ (callsIn_wide.2 (chp _))).mono ?_;rintro e w' ⟨rfl,rfl⟩)|(refine⟨trivial,?_⟩;gi_at_call 67;refine(CallsIn.inRound _ (callsIn_wide.2 (cct _))).mono ?_;rintro e w' ⟨rfl,rfl⟩)|(refine⟨trivial,?_⟩;gi_at_call 68;refine(CallsIn.inRound _ (callsIn_wide.2 (cbl _))).mono ?_;rintro e w' ⟨rfl,rfl⟩)|(refine⟨trivial,?_⟩))
     obtain⟨u,hu1,hu2,hu3⟩:=HFS.out HBD.out;refine⟨(Beyond.refl _ _).setCell (p:=⟨w.heap.size+1,0,none⟩) (by have:=HZ.out;show w.heap.size+1 < _;omega) _,HBW.out.setCell (p:=⟨w.heap.size+1,0,none⟩) (by show _≤w.heap.size+1;omega) _,u,hu1,?_⟩;rw[hu2,hu3];exact HB2.out.st 0 _
    ·rw[hc]at cct k3;rw[hbk]at cbl k3;have HBD:=Qh (show badU R N=false from k3);clear hc hbk k3
     gi_wp2_with (first|(refine⟨trivial,?_⟩;gi_at_call 66;refine(CallsIn.inRound _ (callsIn_wide.2 (crl _))).mono ?_;rintro e w' ⟨rfl,rfl⟩)|(refine⟨trivial,?_⟩;gi_at_call 65;refine(CallsIn.inRound _ (callsIn_wide.2 (chp _))).mono ?_;rintro e w' ⟨rfl,rfl⟩)|(refine⟨trivial,?_⟩;gi_at_call 67;refine(CallsIn.inRound _ (callsIn_wide.2 (cct _))).mono ?_;rintro e w' ⟨rfl,rfl⟩)|(refine⟨trivial,?_⟩;gi_at_call 68;refine(CallsIn.inRound _ (callsIn_wide.2 (cbl _))).mono ?_;rintro e w' ⟨rfl,rfl⟩)|(refine⟨trivial,?_⟩))
     refine⟨(Beyond.refl _ _).setCell (p:=⟨w.heap.size+1+1,0,none⟩) (by have:=HZ.out;show w.heap.size+1+1 < _;omega) _,⟨⟨HBW.out.setCell (p:=⟨w.heap.size+1+1,0,none⟩) (by show _≤w.heap.size+1+1;omega) _,HB1.out.other (a:=⟨w.heap.size+1+1,0,none⟩) (by show w.heap.size+1+1≠_;omega) _,HB2.out.other (a:=⟨w.heap.size+1+1,0,none⟩) (by show w.heap.size+1+1≠_;omega) _,?_⟩,HNX.out HBD.out⟩⟩;rw[HPS.out];exact HB3.out.st 0 _
  ·have g1:((R:Int) != 65533)=false:=(by rw[k1];rfl);have g2:((R:Int) == 65533)=true:=(by rw[k1];rfl);have g3:((N:Int) == 1)=false:=(by rw[k2];rfl);have crl3:=fun w=>crl w
   rw[show Lib.runeLen (R:Int)=(N:Int)by rw[k1,k2];rfl]at crl;have chp2:=fun w=>chp w
   rw[k3]at chp;rw[show ctlU R=false by rw[k1];rfl]at cct;have HBD:=Qh (show badU R N=false from k4);clear k1 k2 k3 k4 crl3 chp2
   gi_wp2_with (first|(refine⟨trivial,?_⟩;gi_at_call 66;refine(CallsIn.inRound _ (callsIn_wide.2 (crl _))).mono ?_;rintro e w' ⟨rfl,rfl⟩)|(refine⟨trivial,?_⟩;gi_at_call 65;refine(CallsIn.inRound _ (callsIn_wide.2 (chp _))).mono ?_;rintro e w' ⟨rfl,rfl⟩)|(refine⟨trivial,?_⟩;gi_at_call 67;refine(CallsIn.inRound _ (callsIn_wide.2 (cct _))).mono ?_;rintro e w' ⟨rfl,rfl⟩)|(refine⟨trivial,?_⟩;gi_at_call 68;refine(CallsIn.inRound _ (callsIn_wide.2 (cbl _))).mono ?_;rintro e w' ⟨rfl,rfl⟩)|(refine⟨trivial,?_⟩))
   refine⟨(Beyond.refl _ _).setCell (p:=⟨w.heap.size+1+1,0,none⟩) (by have:=HZ.out;show w.heap.size+1+1 < _;omega) _,⟨⟨HBW.out.setCell (p:=⟨w.heap.size+1+1,0,none⟩) (by show _≤w.heap.size+1+1;omega) _,HB1.out.other (a:=⟨w.heap.size+1+1,0,none⟩) (by show w.heap.size+1+1≠_;omega) _,HB2.out.other (a:=⟨w.heap.size+1+1,0,none⟩) (by show w.heap.size+1+1≠_;omega) _,?_⟩,HNX.out HBD.out⟩⟩;rw[HPS.out];exact HB3.out.st 0 _
  ·have g1:((R:Int) != 65533)=false:=(by rw[k1];rfl);have g2:((R:Int) == 65533)=true:=(by rw[k1];rfl);rw[k3]at chp;have HBD:=Qh (show badU R N=true from k4);clear k1 k2 k3 k4
   gi_wp2_with (first|(refine⟨trivial,?_⟩;gi_at_call 66;refine(CallsIn.inRound _ (callsIn_wide.2 (crl _))).mono ?_;rintro e w' ⟨rfl,rfl⟩)|(refine⟨trivial,?_⟩;gi_at_call 65;refine(CallsIn.inRound _ (callsIn_wide.2 (chp _))).mono ?_;rintro e w' ⟨rfl,rfl⟩)|(refine⟨trivial,?_⟩;gi_at_call 67;refine(CallsIn.inRound _ (callsIn_wide.2 (cct _))).mono ?_;rintro e w' ⟨rfl,rfl⟩)|(refine⟨trivial,?_⟩;gi_at_call 68;refine(CallsIn.inRound _ (callsIn_wide.2 (cbl _))).mono ?_;rintro e w' ⟨rfl,rfl⟩)|(refine⟨trivial,?_⟩))
   obtain⟨u,hu1,hu2,hu3⟩:=HFS.out HBD.out;refine⟨(Beyond.refl _ _).setCell (p:=⟨w.heap.size+1,0,none⟩) (by have:=HZ.out;show w.heap.size+1 < _;omega) _,HBW.out.setCell (p:=⟨w.heap.size+1,0,none⟩) (by show _≤w.heap.size+1;omega) _,u,hu1,?_⟩;rw[hu2,hu3];exact HB2.out.st 0 _
 case done=>
  intro W hi hD;obtain⟨⟨hb,b1,b2,b3⟩,hprev⟩:=hi;have HC:=Qh (show checkV s=.nilIface by
   unfold checkV;rw[if_neg (by omega),show checkL s=none from find_none (fun j hj=>hprev j hj hj)])
  have HBW:=Qh hb;have HB2:=Qh b2;clear hb b1 b3 hprev h0 hall;obtain⟨c1,c2⟩:W.cell? ⟨w.heap.size+1,0,none⟩=some .nilIface∧W.frozen? ⟨w.heap.size+1,0,none⟩=false:=⟨b2.cell 0 _ rfl,b2.free 0⟩
  clear b2
  gi_wp2
  have hne:V.heap.size≠w.heap.size+1:=(by have:=HZ.out;omega);have hK':(W.setCell ⟨w.heap.size+1,0,none⟩ .nilIface).heap[V.heap.size]? = some (.deferred (some [])):=(Below.heap_setCell W ⟨w.heap.size+1,0,none⟩ .nilIface _ hne).trans hD;refine⟨by simp,.inl ⟨_,_,rfl,run_takeDeferred hK',?_⟩⟩;have hc5:=(((HB2.out.st 0 .nilIface).same (World.putObj_heap_other (o:=.deferred none) hne.symm)).cell 0 _ rfl:((W.setCell ⟨w.heap.size+1,0,none⟩ .nilIface).putObj V.heap.size (.deferred none)).cell? ⟨w.heap.size+1,0,none⟩=some .nilIface)
  refine⟨.nilIface,?_,by rw[HC.out],(HBW.out.setCell (p:=⟨w.heap.size+1,0,none⟩) (by show _≤w.heap.size+1;omega) _).trans (below_put _ (by have:=HZ.out;omega))⟩;simp[results,Tryz.f31,go_sem,hc5]
 case stop=>
  intro W hx hD;obtain⟨hb,u,hu,b2⟩:=hx;have HC:=Qh (show checkV s=faultV 6 u.line u.col by
   unfold checkV;rw[if_neg (by omega),hu])
  clear hu h0 hall;have hne:V.heap.size≠w.heap.size+1:=by have:=HZ.out;omega
  gi_wp2
  refine⟨by simp,.inl ⟨_,_,rfl,run_takeDeferred hD,?_⟩⟩;have hc5:=((b2.same (World.putObj_heap_other (o:=.deferred none) hne.symm)).cell 0 _ rfl:(W.putObj V.heap.size (.deferred none)).cell? ⟨w.heap.size+1,0,none⟩=some (faultV 6 u.line u.col))
  refine⟨faultV 6 u.line u.col,?_,by rw[HC.out],hb.trans (below_put _ (by have:=HZ.out;omega))⟩;simp[results,Tryz.f31,go_sem,hc5]
set_option maxRecDepth 100000 in theorem check_any (s : List UInt8) (hs : s.length ≤ 9223372036854775807) (w : World) :
  Calls prog 31 #[.string ⟨s.toArray⟩] w fun e w'=>e=.returned (checkV s)∧Below w.heap.size w w':=by
 by_cases h:(1048576:Int) < s.length
 ·have HC:=Qh (show checkV s=errV 5 by unfold checkV;rw[if_pos (by omega)]);go_enter func31,ntmps31
  go_wp2_with fail;exact bodyPost_ret (v:=errV 5) (by simp[results,results31,go_sem,errV]) rfl ⟨by rw[HC.out],((Below.refl _ _).alloc lrf _).alloc (by simp) _⟩
 ·exact check_short s (by omega) w
def stopN (c:UInt8):Bool:=ltU c.toNat || c == 46
def num3T (s:List UInt8) (n:Nat):Nat:=match s[n]? with
 | some c=>if stopN c=true then 0 else n
 | none=>n
def num2T (s:List UInt8) (n:Nat):Nat:=match s[n]? with
 | some c=>if isEe c=true then (if tw (s.drop (n+1+sgnN (s.drop (n+1))))=[] then 0 else num3T s (n+1+sgnN (s.drop (n+1))+(tw (s.drop (n+1+sgnN (s.drop (n+1))))).length)) else num3T s n
 | none=>num3T s n
def num1T (s:List UInt8) (n:Nat):Nat:=match s[n]? with
 | some c=>if c=46 then (if tw (s.drop (n+1))=[] then 0 else num2T s (n+(1+(tw (s.drop (n+1))).length))) else num2T s n
 | none=>num2T s n
def numN (s:List UInt8):Nat:=num1T s (sgnN s+(tw (s.drop (sgnN s))).length)
theorem sgnN_le (s:List UInt8):sgnN s≤1∧sgnN s≤s.length:=by
 cases s with
 | nil=>exact⟨Nat.zero_le _,lrf⟩
 | cons c t=>show(if _ then 1 else 0)≤1∧(if _ then 1 else 0)≤(c::t).length;split<;>simp
theorem tw_lenA (l:List UInt8):(tw l).length≤l.length:=by
 unfold tw;exact(List.takeWhile_sublist _).length_le
theorem at_some {s:List UInt8} {n:Nat} (h:n < s.length):s[n]? = some s[n]:=List.getElem?_eq_getElem h
theorem at_none {s:List UInt8} {n:Nat} (h:¬ n < s.length):s[n]? = none:=List.getElem?_eq_none (by omega)
theorem num3_end {s:List UInt8} {n:Nat} (h:¬ n < s.length):num3T s n=n:=by unfold num3T;rw[at_none h]
theorem num2_end {s:List UInt8} {n:Nat} (h:¬ n < s.length):num2T s n=n:=by unfold num2T;rw[at_none h];exact num3_end h
theorem num1_end {s:List UInt8} {n:Nat} (h:¬ n < s.length):num1T s n=n:=by unfold num1T;rw[at_none h];exact num2_end h
theorem byte_ne {c:UInt8} {m:Nat} (hm:m < 256) (h:c≠UInt8.ofNat m):((c.toNat:Int) == (m:Int))=false:=by
 rw[beq_eq_false_iff_ne];intro e;exact h (UInt8.toNat.inj (by rw[UInt8.toNat_ofNat_of_lt' (by simpa using hm)];omega))
set_option maxRecDepth 100000 in theorem number_any (s : List UInt8) (hs : s.length ≤ 1000000000) (w : World) :
  Calls prog 71 #[.string ⟨s.toArray⟩] w fun e w'=>e=.returned (.int .i64 (numN s:Nat))∧Below w.heap.size w w':=by
 obtain⟨T,hT⟩:∃ T,T=numN s:=⟨_,rfl⟩
 rw[← hT];have HT:=Qh hT;clear hT;have csg:=fun (n:Nat) w=>signed_any (s.drop n) w
 have cdg:=fun (n:Nat) w=>digitsN_any (s.drop n) (by rw[List.length_drop];omega) w
 have hex:=fun (n:Nat) (hn:n≤s.length)=>ext_from s n hn
 have CSG:=Qh csg;have CDG:=Qh cdg;have HEX:=Qh hex;clear csg cdg hex;have c0:=CSG.out 0;rw[List.drop_zero]at c0;obtain⟨g1,g2⟩:=sgnN_le s;go_enter func71,ntmps71
 go_wp2_with fail;with_reducible refine(c0 _).mono ?_
 rintro e w1 ⟨rfl,rfl⟩;clear c0;have c1:=CDG.out (sgnN s);have x1:=HEX.out (sgnN s) g2;have tl:=tw_lenA (s.drop (sgnN s));rw[List.length_drop]at tl;have HN:=Qh (show T=num1T s (sgnN s+(tw (s.drop (sgnN s))).length)from HT.out);clear HT;generalize sgnN s=a at *;generalize (tw (s.drop a)).length=b at *;go_wp2_with fail;with_reducible refine(c1 _).mono ?_
 rintro e w2 ⟨rfl,hb2⟩;clear c1 x1;have hn1:a+b≤s.length:=(by omega);have HB2:=Qh hb2;clear hb2 g1 g2 tl;obtain⟨n1,hn⟩:∃ n1,n1=a+b:=⟨_,rfl⟩
 rw[← hn]at HN hn1;have hcast:(a:Int)+(b:Int)=(n1:Nat):=(by omega);clear hn;obtain⟨w0,hw0⟩:∃ x,x=w1:=⟨_,rfl⟩
 subst hw0;by_cases hlt:(n1:Int) < s.length
 ·have hlt':n1 < s.length:=(by omega);have hget:(⟨s.toArray⟩:ByteArray)[n1]'hlt' = s[n1]:=rfl;have hS:=HN.out;unfold num1T at hS;rw[at_some hlt']at hS;simp only at hS;have HN1:=Qh hS;clear HN hS;generalize s[n1]=c at *;go_upto_if 23 with (fail)
  clear hcast;go_cut [3] (fun x ws=>∃ n:Nat,x=.int .i64 (n:Nat)∧n≤s.length∧T=num2T s n∧Below w0.heap.size w0 ws)
  case first=>
   have hS:=HN1.out;clear HN1;by_cases hc:c=46
   ·rw[if_pos hc]at hS;have g46:((c.toNat:Int) == 46)=true:=(by rw[hc];rfl);have cd:=CDG.out (n1+1);have hx:=HEX.out (n1+1) (by omega);have tl:=tw_lenA (s.drop (n1+1));rw[List.length_drop]at tl;clear hc;by_cases h0:tw (s.drop (n1+1))=[]
    ·rw[if_pos h0]at hS;rw[h0]at cd;have HS:=Qh hS;clear h0 hS tl;go_wp2_with fail;with_reducible refine(cd _).mono ?_
     rintro e w3 ⟨rfl,hb⟩;have HB3:=Qh (bstep HB2.out hb lrf);clear hb cd;go_wp2_with fail;go_ret;exact⟨by rw[HS.out]<;>rfl,HB3.out⟩
    ·rw[if_neg h0]at hS;have hk:0 < (tw (s.drop (n1+1))).length:=List.length_pos_iff.2 h0;generalize (tw (s.drop (n1+1))).length=k at *;have HS:=Qh hS;have hk0:((k:Int) == 0)=false:=(by rw[beq_eq_false_iff_ne];omega);clear h0 hS;go_wp2_with fail;with_reducible refine(cd _).mono ?_
     rintro e w3 ⟨rfl,hb⟩;have HB3:=Qh (bstep HB2.out hb lrf);clear hb cd;go_wp2_with fail;go_meet
     case rel=>exact⟨n1+(1+k),by first|rfl|go_num,by omega,HS.out,HB3.out⟩
   ·rw[if_neg hc]at hS;have g46:((c.toNat:Int) == 46)=false:=byte_ne (m:=46) (by decide) hc;have HS:=Qh hS;clear hc hS;go_wp2_with fail;go_meet
    case rel=>exact⟨n1,by first|rfl|go_num,hn1,HS.out,HB2.out⟩
  case rest=>
   clear HN1 HB2 hn1 hlt hlt' hget;obtain⟨n2,rfl,hn2,hT2,hbw⟩:=hcut;have HN:=Qh hT2;have HB2:=Qh hbw;clear hT2 hbw;obtain⟨w2,hw2⟩:∃ x,x=wc:=⟨_,rfl⟩
   subst hw2;by_cases hlt:(n2:Int) < s.length
   ·have hlt':n2 < s.length:=(by omega);have hget:(⟨s.toArray⟩:ByteArray)[n2]'hlt' = s[n2]:=rfl;have hS:=HN.out;unfold num2T at hS;rw[at_some hlt']at hS;simp only at hS;clear HN;by_cases hc:isEe s[n2]=true
    ·rw[if_pos hc]at hS;have hcc:((s[n2].toNat:Int) == 101)=true∨(((s[n2].toNat:Int) == 101)=false∧((s[n2].toNat:Int) == 69)=true):=by
      unfold isEe at hc;rw[Bool.or_eq_true,beq_iff_eq,beq_iff_eq]at hc;rcases hc with h|h
      ·left;rw[h];rfl
      ·right;rw[h];exact⟨rfl,rfl⟩
     generalize s[n2]=c2 at *;have cs:=CSG.out (n2+1);have hx1:=HEX.out (n2+1) (by omega);obtain⟨s1,s2⟩:=sgnN_le (s.drop (n2+1));rw[List.length_drop]at s2;have hm:n2+1+sgnN (s.drop (n2+1))≤s.length:=(by omega);have cd:=CDG.out (n2+1+sgnN (s.drop (n2+1)));have hx2:=HEX.out (n2+1+sgnN (s.drop (n2+1))) hm;have tl:=tw_lenA (s.drop (n2+1+sgnN (s.drop (n2+1))));rw[List.length_drop]at tl;generalize sgnN (s.drop (n2+1))=sg at *;clear hc;by_cases h0:tw (s.drop (n2+1+sg))=[]
     ·rw[if_pos h0]at hS;rw[h0]at cd;have HS:=Qh hS;clear h0 hS tl;rcases hcc with g1|⟨g1,g2⟩
      all_goals
       go_wp2_with fail;with_reducible refine(cs _).mono ?_
       rintro e w3 ⟨rfl,rfl⟩;go_wp2_with fail;with_reducible refine(cd _).mono ?_
       rintro e w3 ⟨rfl,hb⟩;have HB3:=Qh (bstep HB2.out hb lrf);clear hb cd;go_wp2_with fail;go_ret;exact⟨by rw[HS.out]<;>rfl,HB3.out⟩
     ·rw[if_neg h0]at hS;have hk:0 < (tw (s.drop (n2+1+sg))).length:=List.length_pos_iff.2 h0;generalize (tw (s.drop (n2+1+sg))).length=k at *;have HN:=Qh hS;have hk0:((k:Int) == 0)=false:=(by rw[beq_eq_false_iff_ne];omega);obtain⟨n3,hn3⟩:∃ n3,n3=n2+1+sg+k:=⟨_,rfl⟩
      rw[← hn3]at HN;have hle3:n3≤s.length:=(by omega);clear h0 hS;rcases hcc with g1|⟨g1,g2⟩
      ·go_wp2_with fail;with_reducible refine(cs _).mono ?_
       rintro e w3 ⟨rfl,rfl⟩;go_wp2_with fail;with_reducible refine(cd _).mono ?_
       rintro e w3 ⟨rfl,hb⟩;have HB3:=Qh (bstep HB2.out hb lrf);clear hb cd;have hcast:(n2:Int)+1+(sg:Int)+(k:Int)=(n3:Nat):=(by omega);have hn3':n2+1+sg+k=n3:=hn3.symm;clear hn3;by_cases hlt3:(n3:Int) < s.length
       ·have hlt':n3 < s.length:=(by omega);have hget:(⟨s.toArray⟩:ByteArray)[n3]'hlt' = s[n3]:=rfl;have hS:=HN.out;unfold num3T at hS;rw[at_some hlt']at hS;simp only at hS;generalize s[n3]=c3 at *;have cl:=letter_any c3.toNat;have hw:IntKind.i32.wrap (c3.toNat:Int)=(c3.toNat:Int):=by
         have:=UInt8.toNat_lt c3;unfold IntKind.wrap;simp[IntKind.bits,IntKind.signed];omega
        cases hl:ltU c3.toNat
        ·rw[hl]at cl;by_cases hc:c3=46
         ·rw[if_pos (by unfold stopN;rw[hc];rfl)]at hS;have g46:((c3.toNat:Int) == 46)=true:=(by rw[hc];rfl);have HS:=Qh hS;clear hc hS HN hl;go_wp2_with fail;with_reducible refine(cl _).mono ?_
          rintro e w3 ⟨rfl,rfl⟩;go_wp2_with fail;go_ret;exact⟨by rw[HS.out]<;>rfl,HB3.out⟩
         ·rw[if_neg (by unfold stopN;rw[hl];simpa using hc)]at hS;have g46:((c3.toNat:Int) == 46)=false:=byte_ne (m:=46) (by decide) hc;have HS:=Qh hS;clear hc hS HN hl;go_wp2_with fail;with_reducible refine(cl _).mono ?_
          rintro e w3 ⟨rfl,rfl⟩;go_wp2_with fail;go_ret;exact⟨by rw[HS.out]<;>rfl,HB3.out⟩
        ·rw[hl]at cl;rw[if_pos (by unfold stopN;rw[hl];rfl)]at hS;have HS:=Qh hS;clear hS HN hl;go_wp2_with fail;with_reducible refine(cl _).mono ?_
         rintro e w3 ⟨rfl,rfl⟩;go_wp2_with fail;go_ret;exact⟨by rw[HS.out]<;>rfl,HB3.out⟩
       ·have HS:=Qh (show T=n3 by rw[HN.out];exact num3_end (by omega));clear HN;go_wp2_with fail;go_ret;exact⟨by rw[HS.out]<;>rfl,HB3.out⟩
      ·go_wp2_with fail;with_reducible refine(cs _).mono ?_
       rintro e w3 ⟨rfl,rfl⟩;go_wp2_with fail;with_reducible refine(cd _).mono ?_
       rintro e w3 ⟨rfl,hb⟩;have HB3:=Qh (bstep HB2.out hb lrf);clear hb cd;have hcast:(n2:Int)+1+(sg:Int)+(k:Int)=(n3:Nat):=(by omega);have hn3':n2+1+sg+k=n3:=hn3.symm;clear hn3;by_cases hlt3:(n3:Int) < s.length
       ·have hlt':n3 < s.length:=(by omega);have hget:(⟨s.toArray⟩:ByteArray)[n3]'hlt' = s[n3]:=rfl;have hS:=HN.out;unfold num3T at hS;rw[at_some hlt']at hS;simp only at hS;generalize s[n3]=c3 at *;have cl:=letter_any c3.toNat;have hw:IntKind.i32.wrap (c3.toNat:Int)=(c3.toNat:Int):=by
         have:=UInt8.toNat_lt c3;unfold IntKind.wrap;simp[IntKind.bits,IntKind.signed];omega
        cases hl:ltU c3.toNat
        ·rw[hl]at cl;by_cases hc:c3=46
         ·rw[if_pos (by unfold stopN;rw[hc];rfl)]at hS;have g46:((c3.toNat:Int) == 46)=true:=(by rw[hc];rfl);have HS:=Qh hS;clear hc hS HN hl;go_wp2_with fail;with_reducible refine(cl _).mono ?_
          rintro e w3 ⟨rfl,rfl⟩;go_wp2_with fail;go_ret;exact⟨by rw[HS.out]<;>rfl,HB3.out⟩
         ·rw[if_neg (by unfold stopN;rw[hl];simpa using hc)]at hS;have g46:((c3.toNat:Int) == 46)=false:=byte_ne (m:=46) (by decide) hc;have HS:=Qh hS;clear hc hS HN hl;go_wp2_with fail;with_reducible refine(cl _).mono ?_
          rintro e w3 ⟨rfl,rfl⟩;go_wp2_with fail;go_ret;exact⟨by rw[HS.out]<;>rfl,HB3.out⟩
        ·rw[hl]at cl;rw[if_pos (by unfold stopN;rw[hl];rfl)]at hS;have HS:=Qh hS;clear hS HN hl;go_wp2_with fail;with_reducible refine(cl _).mono ?_
         rintro e w3 ⟨rfl,rfl⟩;go_wp2_with fail;go_ret;exact⟨by rw[HS.out]<;>rfl,HB3.out⟩
       ·have HS:=Qh (show T=n3 by rw[HN.out];exact num3_end (by omega));clear HN;go_wp2_with fail;go_ret;exact⟨by rw[HS.out]<;>rfl,HB3.out⟩
    ·rw[if_neg hc]at hS;have g1:((s[n2].toNat:Int) == 101)=false:=byte_ne (m:=101) (by decide) (fun h=>hc (by rw[h];rfl));have g2:((s[n2].toNat:Int) == 69)=false:=byte_ne (m:=69) (by decide) (fun h=>hc (by rw[h];rfl));have HN:=Qh hS;clear hc hS;have hS:=HN.out;unfold num3T at hS;rw[at_some hlt']at hS;simp only at hS;generalize s[n2]=c3 at *;have cl:=letter_any c3.toNat;have hw:IntKind.i32.wrap (c3.toNat:Int)=(c3.toNat:Int):=by
      have:=UInt8.toNat_lt c3;unfold IntKind.wrap;simp[IntKind.bits,IntKind.signed];omega
     cases hl:ltU c3.toNat
     ·rw[hl]at cl;by_cases hc:c3=46
      ·rw[if_pos (by unfold stopN;rw[hc];rfl)]at hS;have g46:((c3.toNat:Int) == 46)=true:=(by rw[hc];rfl);have HS:=Qh hS;clear hc hS HN hl;go_wp2_with fail;with_reducible refine(cl _).mono ?_
       rintro e w3 ⟨rfl,rfl⟩;go_wp2_with fail;go_ret;exact⟨by rw[HS.out]<;>rfl,HB2.out⟩
      ·rw[if_neg (by unfold stopN;rw[hl];simpa using hc)]at hS;have g46:((c3.toNat:Int) == 46)=false:=byte_ne (m:=46) (by decide) hc;have HS:=Qh hS;clear hc hS HN hl;go_wp2_with fail;with_reducible refine(cl _).mono ?_
       rintro e w3 ⟨rfl,rfl⟩;go_wp2_with fail;go_ret;exact⟨by rw[HS.out]<;>rfl,HB2.out⟩
     ·rw[hl]at cl;rw[if_pos (by unfold stopN;rw[hl];rfl)]at hS;have HS:=Qh hS;clear hS HN hl;go_wp2_with fail;with_reducible refine(cl _).mono ?_
      rintro e w3 ⟨rfl,rfl⟩;go_wp2_with fail;go_ret;exact⟨by rw[HS.out]<;>rfl,HB2.out⟩
   ·have HS:=Qh (show T=n2 by rw[HN.out];exact num2_end (by omega));clear HN;go_wp2_with fail;go_ret;exact⟨by rw[HS.out]<;>rfl,HB2.out⟩
 ·have HS:=Qh (show T=n1 by rw[HN.out];exact num1_end (by omega));clear HN;go_wp2_with fail;go_ret;exact⟨by rw[HS.out]<;>rfl,HB2.out⟩
end Go.Proofs.YtkblpaabknjckaaGreatDoor
