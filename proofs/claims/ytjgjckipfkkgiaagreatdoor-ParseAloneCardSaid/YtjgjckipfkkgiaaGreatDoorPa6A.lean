/-
  busbarlaw06's parts: the places of a database's parts, in order, and the words that stand there.
-/
import Derived.Test.YtjgjckipfkkgiaaGreatDoorFilM
import Derived.Test.YtjgjckipfkkgiaaGreatDoorSamA
import Derived.Test.YtjgjckipfkkgiaaGreatDoorBaseD
import Derived.Test.YtjgjckipfkkgiaaGreatDoorRd6B
import Derived.Test.YtjgjckipfkkgiaaGreatDoorGat6
import Derived.Test.YtjgjckipfkkgiaaGreatDoorLexB
import Derived.Test.YtjgjckipfkkgiaaGreatDoorBaseC
import Derived.Test.YtjgjckipfkkgiaaGreatDoorHeldL
import Derived.Deep.Cut
import Derived.Deep.DeepCutAuto
set_option maxHeartbeats 128000000
set_option linter.unusedVariables false
namespace Go.Proofs.YtjgjckipfkkgiaaGreatDoor
open Go.RowKit Go.Shelf
def smallL:List UInt8:=[66,85,95,58,32,65,32,66,79,95,32,50,53,54,32,77,58,32,56,32,65,32,83,71,95,32,120,32,58,32,48,124,56,64,49,43,32,40,49,44,48,41,32,91,48,124,48,93,32,34,34,32,65]
def dSmall:DbD:=⟨false,⟨0,0,[]⟩,⟨1,1,[[65]]⟩,[⟨1,8,256,false,[77],8,[65],[⟨⟨1,23,[120],0,0,0,8,false,false,1,1,0,1,0,1,0,1,[]⟩,[[65]]⟩]⟩],[]⟩
theorem small_file:fileR smallL=.good (nodsD dSmall):=by kernel_rfl
open Go.Proofs.Tryz
theorem small_bd:DbBd dSmall 1048577 where
 nam:=by decide
 mln:=by decide
 msg:=by
  intro m hm;simp only[dSmall,List.mem_singleton]at hm;subst hm;exact⟨by decide,fun x hx=>by simp only[List.mem_singleton]at hx;subst hx;decide⟩
 tln:=by decide
 tab:=by intro t ht;cases ht
theorem small_ver:VerOK dSmall:=fun _=>rfl
theorem small_fields {w:World} {k:Nat} {C:Array Value} (hC:rdDb w dSmall C.toList) (hk:Blk w k C) :
  ∃ (b o c b2 o2 c2:Nat),w.cell? ⟨k,7,none⟩=some (.slice (some ⟨b,o,none⟩) 1 c)∧w.cell? ⟨b,o+2,none⟩=some (.int .u32 256)∧w.cell? ⟨b,o+7,none⟩=some (.slice (some ⟨b2,o2,none⟩) 1 c2)∧w.cell? ⟨b2,o2+2,none⟩=some (.string ⟨#[120]⟩)∧w.cell? ⟨b2,o2+6,none⟩=some (.int .i64 8):=by
 obtain⟨pa,pn,pb,pm,pc,pt,eC,hN,hM,hT⟩:=hC;have hc:=Array.toList_inj.1 eC;obtain⟨b,o,rfl,-,cs,h8,⟨a2,c2,rfl,hs⟩,hr⟩:=hM.at (by decide) (k:=0) (by decide);obtain⟨b2,o2,e2,-,cs2,h19,⟨a3,c3,rfl,-⟩,hr2⟩:=hs.at (by decide) (k:=0) (by decide);refine⟨b,o,pm,b2,o2,c2,hk.cell 7 _ (by rw[hc];rfl),?_,?_,?_,?_⟩
 ·have:=hr 2 _ rfl
  simpa [dSmall]using this
 ·have:=hr 7 _ rfl;rw[e2]at this
  simpa [dSmall]using this
 ·have:=hr2 2 _ rfl
  simpa [dSmall]using this
 ·have:=hr2 6 _ rfl
  simpa [dSmall]using this
set_option maxRecDepth 100000 in theorem works6_any (w : World) (hW : FileW w) :
  Calls prog 7 #[] w fun e w'=>e=.returned (.bool true)∧Below w.heap.size w w':=by
 have cR:=read6_good smallL (by decide) dSmall small_bd small_ver small_file w hW;simp only[smallL]at cR;clear hW;go_enter func7,ntmps7
 go_wp2_with fail;(with_reducible refine cR.mono ?_);rintro e w1 ⟨C,rfl,hC,hb⟩;obtain⟨hC9,hC1⟩:=fdDb_shape (b:=0) hC;have hb1:Below w.heap.size w (w1.alloc (.cells C 32)):=hb.alloc hb.size _;obtain⟨b,o,c,b2,o2,c2,f1,f2,f3,f4,f5⟩:=small_fields (fd_db (last_fdDb _ _ _ _ hC ((Below.refl _ _).alloc lrf (.cells C 32)))) (Blk.new w1 C 32);have HB:=Qh hb1;clear cR hC hb hb1;go_upto_region 2 with (refine wpList_newS (Z:=zeroDb) (cs:=C) 32 (.tmp 1) (.tmp 5) (by rw[hC9];exact db_zero) (by rw[hC9];rfl) hC1 ?_)
 generalize w1.alloc (.cells C 32)=W at *;generalize w1.heap.size=k1 at *;clear hC9 hC1;go_wp2_with fail;go_ret;exact⟨rfl,HB.out⟩
theorem Bnd.after {s:List UInt8} {p q:Int×Int} {k:Nat} (h:Bnd s p k q):∀ {n:Nat} {r:Int×Int},Bnd s p n r→k < n→k+(decL (s.drop k)).2≤n∧s.drop k≠[]:=by
 induction h with
 | zero s p=>
  intro n r h2 hk;cases h2 with
  | zero=>omega
  | step _ _ m _ hne h3=>exact⟨by rw[List.drop_zero];omega,by rw[List.drop_zero];exact hne⟩
 | step s p m q hne h ih=>
  intro n r h2 hk;cases h2 with
  | zero=>omega
  | step _ _ m2 _ hne2 h3=>
   have:=ih h3 (by omega);rw[List.drop_drop]at this;exact⟨by omega,this.2⟩
theorem Bnd.more {s:List UInt8} {p q:Int×Int} {k:Nat} (h:Bnd s p k q) (hne:s.drop k≠[]):Bnd s p (k+(decL (s.drop k)).2) (nextP q (decL (s.drop k)).1):=by
 have h1:=Bnd.step (s.drop k) q 0 _ hne (.zero _ _);exact h.trans h1
set_option maxRecDepth 100000 in theorem byteAt6_any (s : List UInt8) (hs : s.length ≤ 1000000000) (n : Nat) (hn : n < s.length) (L C : Int) (hb : Bnd s (1, 1) n (L, C)) (w : World) :
  Calls prog 10 #[.string ⟨s.toArray⟩,.agg #[.int .i64 L,.int .i64 C]] w fun e w'=>e=.returned (.int .i64 (n:Nat))∧Below w.heap.size w w':=by
 obtain⟨ta,hsz,hbw⟩:=box1 w #[.int .i64 L,.int .i64 C] 23;have TA0:=Qh ta;have HB0:=Qh hbw;have HBN:=Qh hb;have hi0:=World.iter_heap (w.alloc (.cells #[.int .i64 L,.int .i64 C] 23)) ⟨s.toArray⟩ 0;have hbi:Below (w.alloc (.cells #[.int .i64 L,.int .i64 C] 23)).heap.size (w.alloc (.cells #[.int .i64 L,.int .i64 C] 23)) ((w.alloc (.cells #[.int .i64 L,.int .i64 C] 23)).iter ⟨s.toArray⟩ 0):=(Below.refl _ _).alloc lrf _;rw[hsz]at hi0 hbi;clear ta hbw hb;go_enter func10,ntmps10
 go_wp2_with fail;have TA:=Qh (TA0.out.keep (hbi.mono (Nat.le_of_eq hsz)) lrf);have HBV:=Qh (HB0.out.trans (hbi.mono (Nat.le_succ _)));clear hsz HB0 TA0 hbi;generalize (w.alloc (.cells #[.int .i64 L,.int .i64 C] 23)).iter ⟨s.toArray⟩ 0=V at *;go_loopw [5,6] (fun x y wr=>∃ (k:Nat) (q0 q1:Int),k≤n∧x=.int .i64 q0∧y=.int .i64 q1∧0 < q0∧q0≤1+k∧0 < q1∧q1≤1+k∧Bnd s (1,1) k (q0,q1)∧wr.heap[w.heap.size+1]? = some (.stringIter ⟨s.toArray⟩ k)∧Blk wr w.heap.size #[.int .i64 L,.int .i64 C]∧Below w.heap.size w wr) (fun _ _ wr=>s.length - wr.iterPos (w.heap.size+1))
 case atStart=>exact⟨0,1,1,Nat.zero_le _,rfl,rfl,by decide,by decide,by decide,by decide,.zero _ _,hi0,TA.out,HBV.out⟩
 case round=>
  clear hi0 TA HBV;obtain⟨k,q0,q1,hk,rfl,rfl,hq0,hq1,hq2,hq3,hbd,hit,hbk,hbw⟩:=hrel;have hmz:wr.iterPos (w.heap.size+1)=k:=iterPos_of hit;have hlt:k < s.length:=(by omega);have hps:k < (⟨s.toArray⟩:ByteArray).size:=hlt;have hnx:∀ ty,(Instr.next (.pointer (some ⟨w.heap.size+1,0,none⟩)) true ty).run prog wr=_:=fun ty=>Lib.run_next_any_at wr (w.heap.size+1) ⟨s.toArray⟩ k ty hit hps
  rw[dec_drop]at hnx;have hbw2:=Lib.below_iterAt hbw (k:=w.heap.size+1) (Nat.le_succ _) ⟨s.toArray⟩ (k+(decL (s.drop k)).2);have hbk2:Blk (wr.iterAt (w.heap.size+1) ⟨s.toArray⟩ (k+(decL (s.drop k)).2)) w.heap.size #[.int .i64 L,.int .i64 C]:=by
   obtain⟨T,hT⟩:=hbk;exact⟨T,by rw[Lib.iterAt_other _ _ _ _ _ (by omega)];exact hT⟩
  have hit2:(wr.iterAt (w.heap.size+1) ⟨s.toArray⟩ (k+(decL (s.drop k)).2)).heap[w.heap.size+1]? = some (.stringIter ⟨s.toArray⟩ (k+(decL (s.drop k)).2)):=Lib.iterAt_heap wr (w.heap.size+1) ⟨s.toArray⟩ k _ hit;obtain⟨hdw1,hdw2,-⟩:=dec_w (s.drop k);have hdm:=dec_max (s.drop k);obtain⟨c0,c1,-,-⟩:=hbk2.two;by_cases hkn:k=n
  ·have hq:=HBN.out;rw[← hkn]at hq;have e:((q0,q1):Int×Int)=(L,C):=by
    have h1:=hbd.place _ lrf;have h2:=hq.place _ lrf;rw[h1]at h2;exact Option.some.inj h2
   injection e with e1 e2
   have HKN:=Qh hkn;clear hq hkn hbk hbk2 hit hit2 hbw hmz hbd;subst e1;subst e2;have g1:(q0 == q0)=true:=(by simp);have g2:(q1 == q1)=true:=(by simp);generalize (decL (s.drop k)).1=R at *;generalize wr.iterAt (w.heap.size+1) ⟨s.toArray⟩ (k+(decL (s.drop k)).2)=wv at *;go_wp2_with fail;go_ret;exact⟨by rw[HKN.out]<;>rfl,hbw2⟩
  ·have hne:¬ (q0=L∧q1=C):=by
    rintro⟨rfl,rfl⟩;exact hkn (hbd.uniq HBN.out)
   obtain⟨haf,hnn⟩:=hbd.after HBN.out (by omega);have HST:=Qh (hbd.more hnn);have hw1:IntKind.i64.wrap (q1+1)=q1+1:=IntWalk.i64_in _ (by omega);have hw0:IntKind.i64.wrap (q0+1)=q0+1:=IntWalk.i64_in _ (by omega);have HI2:=Qh hit2;have HK2:=Qh hbk2;have HB2:=Qh hbw2;clear hbk hbk2 hit hit2 hbw hbd hnn hkn hbw2;have hmz2:(wr.iterAt (w.heap.size+1) ⟨s.toArray⟩ (k+(decL (s.drop k)).2)).iterPos (w.heap.size+1)=k+(decL (s.drop k)).2:=iterPos_of HI2.out;generalize (decL (s.drop k)).1=R at *;generalize (decL (s.drop k)).2=N at *;generalize wr.iterAt (w.heap.size+1) ⟨s.toArray⟩ (k+N)=wv at *;cases g10:((R:Int) == 10)
   ·have hnx2:nextP (q0,q1) R=(q0,q1+1):=by
     unfold nextP;rw[beq_eq_false_iff_ne]at g10;rw[if_neg (by omega)]
    have HNX:=Qh hnx2;clear hnx2;by_cases h1:q0=L
    ·have g1:(q0 == L)=true:=(by simp[h1]);have g2:(q1 == C)=false:=(by rw[beq_eq_false_iff_ne];exact fun h2=>hne ⟨h1,h2⟩);clear hne h1;go_wp2_with fail;go_roundw;case rel=>exact⟨k+N,q0,q1+1,haf,rfl,by first|rfl|go_num,hq0,by omega,by omega,by omega,by have:=HST.out;rw[HNX.out]at this;exact this,HI2.out,HK2.out,HB2.out⟩
     case measure=>rw[hmz2,hmz];omega
    ·have g1:(q0 == L)=false:=(by rw[beq_eq_false_iff_ne];exact h1);clear hne h1;go_wp2_with fail;go_roundw;case rel=>exact⟨k+N,q0,q1+1,haf,rfl,by first|rfl|go_num,hq0,by omega,by omega,by omega,by have:=HST.out;rw[HNX.out]at this;exact this,HI2.out,HK2.out,HB2.out⟩
     case measure=>rw[hmz2,hmz];omega
   ·have hnx2:nextP (q0,q1) R=(q0+1,1):=by
     unfold nextP;rw[beq_iff_eq]at g10;rw[if_pos (by omega)]
    have HNX:=Qh hnx2;clear hnx2;by_cases h1:q0=L
    ·have g1:(q0 == L)=true:=(by simp[h1]);have g2:(q1 == C)=false:=(by rw[beq_eq_false_iff_ne];exact fun h2=>hne ⟨h1,h2⟩);clear hne h1;go_wp2_with fail;go_roundw;case rel=>exact⟨k+N,q0+1,1,haf,by first|rfl|go_num,rfl,by omega,by omega,by decide,by omega,by have:=HST.out;rw[HNX.out]at this;exact this,HI2.out,HK2.out,HB2.out⟩
     case measure=>rw[hmz2,hmz];omega
    ·have g1:(q0 == L)=false:=(by rw[beq_eq_false_iff_ne];exact h1);clear hne h1;go_wp2_with fail;go_roundw;case rel=>exact⟨k+N,q0+1,1,haf,by first|rfl|go_num,rfl,by omega,by omega,by decide,by omega,by have:=HST.out;rw[HNX.out]at this;exact this,HI2.out,HK2.out,HB2.out⟩
     case measure=>rw[hmz2,hmz];omega
theorem ext_mid6 (L:List UInt8) (i n:Nat):(⟨L.toArray⟩:ByteArray).extract i (i+n)=⟨((L.drop i).take n).toArray⟩:=by
 have h:∀ (a b:ByteArray),a.data.toList=b.data.toList→a=b:=fun a b e=>by cases a;cases b;simp at e;rw[e]
 apply h;rw[Go.Lib.extract_data];show(L.drop i).take (i+n - i)=_;rw[Nat.add_sub_cancel_left]
def plV (m:Mark):List Value:=[.int .i64 m.2.1,.int .i64 m.2.2]
def wdV (m:Mark):List Value:=[.string ⟨m.1.toArray⟩]
theorem places_ty6:SlTy prog 36 23 2 16:=SlTy.mk' (.agg #[.int .i64 0,.int .i64 0]) underlying36 (by kernel_rfl) rfl (by decide) (by decide)
theorem texts_ty6:SlTy prog 26 9 1 16:=SlTy.mk' (.string ⟨#[]⟩) underlying26 (by kernel_rfl) rfl (by decide) (by decide)
structure Two6 (w0 w:World) (l u:Value) (M:List Mark):Prop where
 pl:Owns w w0.heap.size 23 2 plV l M
 wd:Owns w w0.heap.size 9 1 wdV u M
 bel:Below w0.heap.size w0 w
theorem Two6.nil (w:World):Two6 w w (.slice none 0 0) (.slice none 0 0) []:=⟨Owns.nil _ _ _ _ _,Owns.nil _ _ _ _ _,Below.refl _ _⟩
set_option maxRecDepth 100000 in theorem parts6_any (d : DbD) (h1 : d.msgs.length ≤ 1000000) (h2 : d.tabs.length ≤ 1000000) (C : Array Value) (w : World) (hC : rdDb w d C.toList) :
  Calls prog 8 #[.agg C] w fun e w'=>∃ l u,e=.returned (.tuple #[l,u])∧Two6 w w' l u ((nodsD d).map headM):=by
 obtain⟨pa,pn,pb,pm,pc,pt,eC,hN,hM,hT⟩:=hC;have hc:=Array.toList_inj.1 eC;clear eC;have hbx:=(Below.refl w.heap.size w).alloc lrf (.cells C 32);have hbk:=Blk.new w C 32;have HM:=Qh (hM.keep last_rdMsg hbx);have HT:=Qh (hT.keep last_rdTab hbx);have HB:=Qh hbx;have hkb:w.heap.size < (w.alloc (.cells C 32)).heap.size:=(by simp);have c0:=hbk.cell 0 (.bool d.has) (by rw[hc];rfl);have c1:=hbk.cell 1 (.int .i64 d.ver.line) (by rw[hc];rfl);have c2:=hbk.cell 2 (.int .i64 d.ver.col) (by rw[hc];rfl);have c4:=hbk.cell 4 (.int .i64 d.sta.line) (by rw[hc];rfl);have c5:=hbk.cell 5 (.int .i64 d.sta.col) (by rw[hc];rfl);have hc7:C[7]? = some (.slice pb d.msgs.length pm):=(by rw[hc];rfl);have hc8:C[8]? = some (.slice pc d.tabs.length pt):=(by rw[hc];rfl);have HK:=Qh hbk;clear hN hM hT hbx hbk hc;have hH:∃ H0:List Mark,H0=(if d.has then [([86,69,82,83,73,79,78],d.ver.line,d.ver.col)] else [])∧(nodsD d).map headM=H0++(([66,85,95],d.sta.line,d.sta.col)::(d.msgs.map (fun m=>(([66,79,95],m.line,m.col):Mark))++d.tabs.map (fun t=>(([86,65,76,95],t.line,t.col):Mark)))):=by
  refine⟨_,rfl,?_⟩;unfold nodsD;cases d.has<;>simp[headM,Function.comp_def]
 obtain⟨H0,hH0,hHd⟩:=hH;have HHD:=Qh hHd;clear hHd;obtain⟨hv,hhv⟩:∃ hv,d.has=hv:=⟨_,rfl⟩
 rw[hhv]at c0 hH0;clear hhv;go_enter func8,ntmps8
 go_upto_region 3 with fail
 generalize w.alloc (.cells C 32)=W at *;generalize hkq:w.heap.size=kb at *;have HKQ:=Qh hkq;clear hkq;have HT0:=Qh (Two6.nil W);go_upto_if 9 with (fail)
 go_cut [4,5] (fun l u ws=>Two6 W ws l u H0)
 case first=>
  have ho:=HT0.out.pl;have hw:=HT0.out.wd;cases hv
  ·have HH:=Qh (show H0=[]by rw[hH0];rfl);clear hH0 ho hw;go_wp2_with fail;go_meet
   case rel=>rw[HH.out];exact HT0.out
  ·have HH:=Qh (show H0=[([86,69,82,83,73,79,78],d.ver.line,d.ver.col)]by rw[hH0];rfl);clear hH0;go_upto_region 5 with (at_builtin;go_loud (refine wpList_append_elem3 (en:=plV) places_ty6 [] ([86,69,82,83,73,79,78],d.ver.line,d.ver.col) ho (Below.refl W.heap.size W) lrf (by simp) ?_ (hone:=by simp[plV,Value.oneCell'])))
   rintro l1 W1 ho1 hb1 hg1 -;have hw1:=hw.grown2 ho (by decide) hg1;have hs1:=hb1.size;have HO1:=Qh ho1;have HB1:=Qh hb1;obtain⟨x1,y1,e1,-⟩:=ho1.shape;subst e1;clear ho hw hg1 ho1 hb1;go_wp2_with (at_builtin;go_loud (refine wpList_append_elem3 (en:=wdV) texts_ty6 [] ([86,69,82,83,73,79,78],d.ver.line,d.ver.col) hw1 (Below.refl W.heap.size W1) hs1 (by simp) ?_ (hone:=by simp[wdV,Value.oneCell'])))
   rintro u1 W2 hu1 hb2 hg2 -;have HT2:=Qh (show Two6 W W2 _ u1 H0 by rw[HH.out];exact⟨HO1.out.grown2 hw1 (by decide) hg2,hu1,HB1.out.trans hb2⟩);clear hu1 hb2 hg2 hw1;go_wp2_with fail;go_meet
   case rel=>exact HT2.out
 case rest=>
  obtain⟨Wr,hWr⟩:∃ x,x=wc:=⟨_,rfl⟩
  subst hWr;have HTR:=Qh hcut;have hs0:=hcut.bel.size;have ho:=hcut.pl;have hw:=hcut.wd;have f4:=cell_keep' c4 hcut.bel;have f5:=cell_keep' c5 hcut.bel;obtain⟨x0,y0,e0,-⟩:=ho.shape;subst e0;obtain⟨x1,y1,e1,-⟩:=hw.shape;subst e1;have hl0:H0.length≤1:=(by rw[hH0];cases hv<;>simp);clear hcut c0 c1 c2 c4 c5 hH0;go_upto_region 7 with (at_builtin;go_loud (refine wpList_append_elem3 (en:=plV) places_ty6 H0 ([66,85,95],d.sta.line,d.sta.col) ho (Below.refl W.heap.size Wr) hs0 (by omega) ?_ (hone:=by simp[plV,Value.oneCell'])))
  rintro l1 W1 ho1 hb1 hg1 -;have hw1:=hw.grown2 ho (by decide) hg1;have hs1:=hb1.size;have HO1:=Qh ho1;have HB1:=Qh hb1;obtain⟨x2,y2,e2,-⟩:=ho1.shape;rw[List.length_append,List.length_cons,List.length_nil,Nat.zero_add]at e2;subst e2;clear ho hw hg1 ho1 hb1 f4 f5;go_upto_region 8 with (at_builtin;go_loud (refine wpList_append_elem3 (en:=wdV) texts_ty6 H0 ([66,85,95],d.sta.line,d.sta.col) hw1 (Below.refl W.heap.size W1) (by omega) (by omega) ?_ (hone:=by simp[wdV,Value.oneCell'])))
  rintro u1 W2 hu1 hb2 hg2 -;have HA:=Qh (show Two6 W W2 _ u1 (H0++[([66,85,95],d.sta.line,d.sta.col)])from ⟨HO1.out.grown2 hw1 (by decide) hg2,hu1,(HTR.out.bel.trans HB1.out).trans hb2⟩);clear hu1 hb2 hg2 hw1 hs1 hs0 HTR HO1 HB1;obtain⟨H1,hH1⟩:∃ H1,H1=H0++[(([66,85,95],d.sta.line,d.sta.col):Mark)]:=⟨_,rfl⟩
  rw[← hH1]at HA;have hl1:H1.length≤2:=(by rw[hH1,List.length_append];simp;omega);have HH1:=Qh hH1;clear hH1 hl0;obtain⟨mb,mo,me⟩:∃ b o,0 < d.msgs.length→pb=some ⟨b,o,none⟩:=by
   by_cases h0:0 < d.msgs.length
   ·obtain⟨b,o,e,-⟩:=HM.out.at (by decide) h0;exact⟨b,o,fun _=>e⟩
   ·exact⟨0,0,fun h=>absurd h h0⟩
  have f7:=HK.out.cell 7 _ hc7;go_upto_region 9 with fail
  go_loopw [4,5,6] (fun l u iv wr=>∃ i:Nat,i≤d.msgs.length∧iv=.int .i64 (i:Nat)∧Two6 W wr l u (H1++(d.msgs.take i).map (fun m=>(([66,79,95],m.line,m.col):Mark)))) (fun _ _ iv _=>d.msgs.length - (intOf iv).toNat)
  case atStart=>exact⟨0,Nat.zero_le _,rfl,by rw[List.take_zero,List.map_nil,List.append_nil];exact HA.out⟩
  case round=>
   clear HA;obtain⟨i,hi,rfl,ht⟩:=hrel;have fr:=cell_keep' f7 ht.bel;have hs0:=ht.bel.size;by_cases hlt:(i:Int) < d.msgs.length
   ·have hlt':i < d.msgs.length:=(by omega);obtain⟨b',o',e',-,cs,hcl,hrd,hrg⟩:=(HM.out.keep last_rdMsg ht.bel).at (by decide) hlt';have hpe:=me (by omega);rw[hpe]at e';cases e'
    rw[hpe]at fr;obtain⟨xa,xc,ecs,-⟩:=hrd;have q0:=hrg 0 (.int .i64 d.msgs[i].line) (by rw[ecs];rfl);have q1:=hrg 1 (.int .i64 d.msgs[i].col) (by rw[ecs];rfl);rw[Nat.add_zero]at q0;have HTK:=Qh (show(H1++(d.msgs.take i).map (fun m=>(([66,79,95],m.line,m.col):Mark)))++[(fun m=>(([66,79,95],m.line,m.col):Mark)) d.msgs[i]]=H1++(d.msgs.take (i+1)).map (fun m=>(([66,79,95],m.line,m.col):Mark))by rw[← List.take_append_getElem hlt',List.map_append,List.append_assoc];rfl);have hll:(H1++(d.msgs.take i).map (fun m=>(([66,79,95],m.line,m.col):Mark))).length≤1000002:=(by rw[List.length_append,List.length_map,List.length_take];omega);have HTT:=Qh ht;have HYE:=Qh (show(fun m=>(([66,79,95],m.line,m.col):Mark)) d.msgs[i]=([66,79,95],d.msgs[i].line,d.msgs[i].col)from rfl);have ho:=ht.pl;have hw:=ht.wd;obtain⟨x0,y0,e0,-⟩:=ho.shape;subst e0;obtain⟨x1,y1,e1,-⟩:=hw.shape;subst e1;generalize d.msgs[i].line=Ln at *;generalize d.msgs[i].col=Cn at *;generalize H1++(d.msgs.take i).map (fun m=>(([66,79,95],m.line,m.col):Mark))=HH at *;clear hrg ecs hpe ht hi;go_upto_region 12 with (at_builtin;go_loud (refine wpList_append_elem3 (en:=plV) places_ty6 HH ([66,79,95],Ln,Cn) ho (Below.refl W.heap.size wr) hs0 (by omega) ?_ (hone:=by simp[plV,Value.oneCell'])))
    rintro l1 W1 ho1 hb1 hg1 -;have hw1:=hw.grown2 ho (by decide) hg1;have hs1:=hb1.size;have HO1:=Qh ho1;have HB1:=Qh hb1;obtain⟨x2,y2,e2,-⟩:=ho1.shape;rw[List.length_append,List.length_cons,List.length_nil,Nat.zero_add]at e2;subst e2;clear ho hw hg1 ho1 hb1 q0 q1 fr;go_wp2_with (at_builtin;go_loud (refine wpList_append_elem3 (en:=wdV) texts_ty6 HH ([66,79,95],Ln,Cn) hw1 (Below.refl W.heap.size W1) (by omega) (by omega) ?_ (hone:=by simp[wdV,Value.oneCell'])))
    rintro u1 W3 hu1 hb2 hg2 -;have HN:=Qh (show Two6 W W3 _ u1 (H1++(d.msgs.take (i+1)).map (fun m=>(([66,79,95],m.line,m.col):Mark)))by rw[← HTK.out,HYE.out];exact⟨HO1.out.grown2 hw1 (by decide) hg2,hu1,(HTT.out.bel.trans HB1.out).trans hb2⟩);clear hu1 hb2 hg2 hw1 hs1 hs0 HTT HO1 HB1;go_wp2_with fail;go_roundw;case rel=>exact⟨i+1,by omega,by go_num,HN.out⟩
    case measure=>simp[intOf];omega
   ·have hii:i=d.msgs.length:=(by omega);have HA2:=Qh (show Two6 W wr _ _ (H1++d.msgs.map (fun m=>(([66,79,95],m.line,m.col):Mark)))by rw[hii,List.take_length]at ht;exact ht);have hbw:=ht.bel;clear ht hii hi hs0 f7;obtain⟨H2,hH2⟩:∃ H2,H2=H1++d.msgs.map (fun m=>(([66,79,95],m.line,m.col):Mark)):=⟨_,rfl⟩
    rw[← hH2]at HA2;have hl2:H2.length≤1000002:=(by rw[hH2,List.length_append,List.length_map];omega);have HH2:=Qh hH2;clear hH2;have HT1:=HT;obtain⟨tb,tof,te⟩:∃ b o,0 < d.tabs.length→pc=some ⟨b,o,none⟩:=by
     by_cases h0:0 < d.tabs.length
     ·obtain⟨b,o,e,-⟩:=HT1.out.at (by decide) h0;exact⟨b,o,fun _=>e⟩
     ·exact⟨0,0,fun h=>absurd h h0⟩
    have f8:=HK.out.cell 8 _ hc8;go_wp2_with fail;clear fr;go_loopw [4,5,7] (fun l u iv wr=>∃ i:Nat,i≤d.tabs.length∧iv=.int .i64 (i:Nat)∧Two6 W wr l u (H2++(d.tabs.take i).map (fun t=>(([86,65,76,95],t.line,t.col):Mark)))) (fun _ _ iv _=>d.tabs.length - (intOf iv).toNat)
    case atStart=>exact⟨0,Nat.zero_le _,rfl,by rw[List.take_zero,List.map_nil,List.append_nil];exact HA2.out⟩
    case round=>
     clear HA2;obtain⟨i,hi,rfl,ht⟩:=hrel;have fr:=cell_keep' f8 ht.bel;have hs0:=ht.bel.size;by_cases hlt:(i:Int) < d.tabs.length
     ·have hlt':i < d.tabs.length:=(by omega);obtain⟨b',o',e',-,cs,hcl,hrd,hrg⟩:=(HT1.out.keep last_rdTab ht.bel).at (by decide) hlt';have hpe:=te (by omega);rw[hpe]at e';cases e'
      rw[hpe]at fr;obtain⟨xa,xc,ecs,-⟩:=hrd;have q0:=hrg 0 (.int .i64 d.tabs[i].line) (by rw[ecs];rfl);have q1:=hrg 1 (.int .i64 d.tabs[i].col) (by rw[ecs];rfl);rw[Nat.add_zero]at q0;have HTK:=Qh (show(H2++(d.tabs.take i).map (fun t=>(([86,65,76,95],t.line,t.col):Mark)))++[(fun t=>(([86,65,76,95],t.line,t.col):Mark)) d.tabs[i]]=H2++(d.tabs.take (i+1)).map (fun t=>(([86,65,76,95],t.line,t.col):Mark))by rw[← List.take_append_getElem hlt',List.map_append,List.append_assoc];rfl);have hll:(H2++(d.tabs.take i).map (fun t=>(([86,65,76,95],t.line,t.col):Mark))).length≤2000002:=(by rw[List.length_append,List.length_map,List.length_take];omega);have HTT:=Qh ht;have HYE:=Qh (show(fun t=>(([86,65,76,95],t.line,t.col):Mark)) d.tabs[i]=([86,65,76,95],d.tabs[i].line,d.tabs[i].col)from rfl);have ho:=ht.pl;have hw:=ht.wd;obtain⟨x0,y0,e0,-⟩:=ho.shape;subst e0;obtain⟨x1,y1,e1,-⟩:=hw.shape;subst e1;generalize d.tabs[i].line=Ln at *;generalize d.tabs[i].col=Cn at *;generalize H2++(d.tabs.take i).map (fun t=>(([86,65,76,95],t.line,t.col):Mark))=HH at *;clear hrg ecs hpe ht hi;go_upto_region 17 with (at_builtin;go_loud (refine wpList_append_elem3 (en:=plV) places_ty6 HH ([86,65,76,95],Ln,Cn) ho (Below.refl W.heap.size wr) hs0 (by omega) ?_ (hone:=by simp[plV,Value.oneCell'])))
      rintro l1 W1 ho1 hb1 hg1 -;have hw1:=hw.grown2 ho (by decide) hg1;have hs1:=hb1.size;have HO1:=Qh ho1;have HB1:=Qh hb1;obtain⟨x2,y2,e2,-⟩:=ho1.shape;rw[List.length_append,List.length_cons,List.length_nil,Nat.zero_add]at e2;subst e2;clear ho hw hg1 ho1 hb1 q0 q1 fr;go_wp2_with (at_builtin;go_loud (refine wpList_append_elem3 (en:=wdV) texts_ty6 HH ([86,65,76,95],Ln,Cn) hw1 (Below.refl W.heap.size W1) (by omega) (by omega) ?_ (hone:=by simp[wdV,Value.oneCell'])))
      rintro u1 W3 hu1 hb2 hg2 -;have HN:=Qh (show Two6 W W3 _ u1 (H2++(d.tabs.take (i+1)).map (fun t=>(([86,65,76,95],t.line,t.col):Mark)))by rw[← HTK.out,HYE.out];exact⟨HO1.out.grown2 hw1 (by decide) hg2,hu1,(HTT.out.bel.trans HB1.out).trans hb2⟩);clear hu1 hb2 hg2 hw1 hs1 hs0 HTT HO1 HB1;go_wp2_with fail;go_roundw;case rel=>exact⟨i+1,by omega,by go_num,HN.out⟩
      case measure=>simp[intOf];omega
     ·have hjj:i=d.tabs.length:=(by omega);have HF:=Qh (show Two6 W wr _ _ ((nodsD d).map headM)by rw[HHD.out];rw[hjj,List.take_length,HH2.out,HH1.out]at ht;simpa [List.append_assoc]using ht);clear ht hjj hi hs0 f8;go_wp2_with fail;go_ret2
      exact⟨_,_,rfl,HF.out.pl.fromBase (by rw[HKQ.out];exact Nat.le_of_lt hkb),HF.out.wd.fromBase (by rw[HKQ.out];exact Nat.le_of_lt hkb),by rw[HKQ.out];exact HB.out.trans (HF.out.bel.mono (Nat.le_of_lt hkb))⟩
theorem two_cells {w0 w:World} {la ua:Option Addr} {n c m cu:Nat} {M:List Mark} (h:Two6 w0 w (.slice la n c) (.slice ua m cu) M) (h0:0 < M.length) :
  n=M.length∧m=M.length∧∃ lb lo ub uo,la=some ⟨lb,lo,none⟩∧ua=some ⟨ub,uo,none⟩∧∀ j (hj:j < M.length),w.cell? ⟨lb,lo+j*2,none⟩=some (.int .i64 M[j].2.1)∧w.cell? ⟨lb,lo+j*2+1,none⟩=some (.int .i64 M[j].2.2)∧w.cell? ⟨ub,uo+j,none⟩=some (.string ⟨M[j].1.toArray⟩):=by
 obtain⟨e1,s1⟩:=h.pl.sl;obtain⟨e2,s2⟩:=h.wd.sl;obtain⟨lb,lo,rfl,-,-⟩:=SlOf.cells s1 (fun _=>rfl) (by decide) h0;obtain⟨ub,uo,rfl,-,-⟩:=SlOf.cells s2 (fun _=>rfl) (by decide) h0;refine⟨e1,e2,lb,lo,ub,uo,rfl,rfl,fun j hj=>?_⟩;obtain⟨b,o,e,-,h3⟩:=SlOf.cells s1 (fun _=>rfl) (by decide) hj;cases e
 obtain⟨b,o,e,-,h4⟩:=SlOf.cells s2 (fun _=>rfl) (by decide) hj;cases e
 refine⟨?_,?_,?_⟩
 ·simpa [plV]using h3 0 (by decide)
 ·simpa [plV,Nat.add_assoc]using h3 1 (by decide)
 ·simpa [wdV]using h4 0 (by decide)
end Go.Proofs.YtjgjckipfkkgiaaGreatDoor
