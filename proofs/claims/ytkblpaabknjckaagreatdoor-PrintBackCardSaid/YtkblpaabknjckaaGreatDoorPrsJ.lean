/-
  The parser's steps, plainly: what is left stays a list of tokens with an end, of short texts, not too many.
-/
import Derived.Test.YtkblpaabknjckaaGreatDoorBaseD
import Derived.Test.YtkblpaabknjckaaGreatDoorPrsC
import Derived.Test.YtkblpaabknjckaaGreatDoorTxtP
import Derived.Test.YtkblpaabknjckaaGreatDoorParS
import Derived.Laws.Bits64b
import Derived.Test.YtkblpaabknjckaaGreatDoorParX
import Derived.Test.YtkblpaabknjckaaGreatDoorCalm
set_option maxHeartbeats 128000000
set_option linter.unusedVariables false
namespace Go.Proofs.YtkblpaabknjckaaGreatDoor
open Go.Proofs.Tryz
open Go.RowKit Go.Shelf
structure SentP (w:World):Prop where
 syn:∃ ev,w.cell? ⟨2,0,none⟩=some ev∧(ev=.nilIface∨∃ te pe,ev=.iface te pe)
 rng:∃ ev,w.cell? ⟨3,0,none⟩=some ev∧(ev=.nilIface∨∃ te pe,ev=.iface te pe)
theorem SentP.keep {w w':World} (h:SentP w) (hb:Below w.heap.size w w'):SentP w':=by
 obtain⟨⟨e,h1,h2⟩,⟨f,h3,h4⟩⟩:=h;exact⟨⟨e,cell_keep' h1 hb,h2⟩,⟨f,cell_keep' h3 hb,h4⟩⟩
def numP (s:List UInt8):Nat×Bool:=match Lib.parseUintB 64 s with
 | .ok u=>(u,Lib.decDigits u == s)
 | Lib.NumEnd.syntax=>(0,false)
 | .range=>(18446744073709551615,false)
set_option maxRecDepth 100000 in theorem pnum_any (s : List UInt8) (hs : s.length ≤ 1048576) (w : World) (hp : PowTab w) (hS : SentP w) :
  Calls prog 102 #[.string ⟨s.toArray⟩] w fun e w'=>e=.returned (.tuple #[.int .u64 ((numP s).1:Nat),.bool (numP s).2])∧Below w.heap.size w w':=by
 obtain⟨V,hV⟩:∃ V,V=numP s:=⟨_,rfl⟩
 rw[← hV];unfold numP at hV;obtain⟨⟨e1,y1,y2⟩,⟨e2,z1,z2⟩⟩:=hS;have HPT:=Qh (fun W (h:Below w.heap.size w W)=>PowTab.keep hp h);cases hpar:Lib.parseUintB 64 s with
 | ok u=>
  have hu:u < 18446744073709551616:=Nat.lt_of_le_of_lt (Lib.parseUintB_le hpar) (by decide);rw[hpar]at hV;have c1:=Tryz.strconv_ParseUint_10_at64_ok ⟨s.toArray⟩ (by show s.length≤_;omega) u (by exact hpar) w;have cf:=fun W h=>fmtUint_any u hu W h
  replace hV:V=(u,Lib.decDigits u == s):=hV;clear hpar hp;generalize Lib.decDigits u=D at *;have HV:=Qh hV;clear hV;go_enter func102,ntmps102
  go_wp2_with fail;(with_reducible refine c1.mono ?_);rintro e w1 ⟨rfl,hb⟩;have hb1:=below_or hb;have HB:=Qh hb1;have cF:=cf w1 (HPT.out _ hb1);clear hb hb1 c1 cf;go_wp2_with fail;(with_reducible refine cF.mono ?_);rintro e w2 ⟨rfl,hb⟩;have HB2:=Qh (bstep HB.out hb lrf);clear hb cF;go_wp2_with fail;go_ret2
  exact⟨by rw[HV.out]<;>rfl,HB2.out⟩
 | range=>
  rw[hpar]at hV;have c1:=Tryz.strconv_ParseUint_10_at64_range ⟨s.toArray⟩ (by show s.length≤_;omega) (by exact hpar) e2 w z1 z2;have HV:=Qh hV;clear hV hpar hp;go_enter func102,ntmps102
  go_wp2_with fail;(with_reducible refine c1.mono ?_);rintro e w1 ⟨N,rfl,-,-,hb⟩;have HB:=Qh hb;clear hb c1;go_wp2_with fail;go_ret2
  exact⟨by rw[HV.out]<;>rfl,HB.out⟩
 | _=>
  rw[hpar]at hV;have c1:=Tryz.strconv_ParseUint_10_at64_syntax ⟨s.toArray⟩ (by show s.length≤_;omega) (by exact hpar) e1 w y1 y2;have HV:=Qh hV;clear hV hpar hp;go_enter func102,ntmps102
  go_wp2_with fail;(with_reducible refine c1.mono ?_);rintro e w1 ⟨N,rfl,-,-,hb⟩;have HB:=Qh hb;clear hb c1;go_wp2_with fail;go_ret2
  exact⟨by rw[HV.out]<;>rfl,HB.out⟩
def wholeR (below:Nat) (ts:List TokD):PR Nat:=
 if (headT ts).kind=2 then (if (numP (headT ts).text).2=true∧(numP (headT ts).text).1 < below then .ok (numP (headT ts).text).1 ts.tail else wrongR 8 ts) else formR ts
set_option maxRecDepth 100000 in theorem whole_any (below : Nat) (hbl : below < 18446744073709551616) (ts : List TokD) (hts : TsOK ts) (hlen : (headT ts).text.length ≤ 1048576) (kp : Nat) (w : World) (h : PAt w kp ts) (hp : PowTab w) (hS : SentP w) :
  Calls prog 78 #[.pointer (some ⟨kp,0,none⟩),.int .u64 below] w fun e w'=>PPost kp w (fun n=>.int .u64 (n:Nat)) (wholeR below ts) e w':=by
 have hpos:=hts.pos;have cf:=fun W hW=>form_any ts hpos kp W hW
 have cg:=fun W hW=>wrong_any 8 ts hpos kp W hW
 have cw:=fun W hW=>now_any ts hpos kp W hW
 have cn:=fun W hW=>next_any 2 ts hts kp W hW
 have cq:=fun W h1 h2=>pnum_any (headT ts).text hlen W h1 h2
 unfold tkV enTok at cw;obtain⟨R,hR⟩:∃ R,R=wholeR below ts:=⟨_,rfl⟩
 rw[← hR];unfold wholeR formR wrongR at hR;have HRV:=Qh hR;have hf1:=tk_f1;have hf0:=tk_f0;have HNR:=Qh (show(headT ts).kind=2→nextR 2 ts=.ok (headT ts) ts.tail from fun h=>by unfold nextR;rw[if_pos ⟨h,by decide⟩]);have H0:=Qh h;have HPT:=Qh (fun W (h:Below w.heap.size w W)=>PowTab.keep hp h);have HST:=Qh (fun W (h:Below w.heap.size w W)=>SentP.keep hS h);have cw0:=cw w h;clear hR h hp hS;generalize hn:numP (headT ts).text=nv at *;obtain⟨n,b⟩:=nv;simp only at cq;clear hn;go_enter func78,ntmps78
 go_wp2_with fail;(with_reducible refine cw0.mono ?_);rintro e w1 ⟨rfl,hb⟩;have HB:=Qh hb;have H1:=Qh (H0.out.keep hb);clear cw0 hb H0;by_cases hk:(headT ts).kind=2;case neg=>
  have HVR:=Qh (show R=.bad (formN ts) (headT ts).line (headT ts).col by rw[HRV.out,if_neg hk]);have e1:=bN hk;have cF:=cf w1 H1.out;generalize (headT ts).kind=K at *;go_wp2_with fail;(with_reducible refine cF.mono ?_);rintro e w2 ⟨rfl,hb⟩;have HB2:=Qh (Only.of_below kp (bstep HB.out hb lrf));clear hb cF;go_wp2_with fail;exact⟨rfl,by rw[HVR.out];exact⟨rfl,HB2.out⟩⟩
 case pos=>
  have cW:=cw w1 H1.out;have cN0:=HNR.out hk;rw[hk]at cW ⊢;go_wp2_with fail;(with_reducible refine cW.mono ?_);rintro e w2 ⟨rfl,hb⟩;have HB2:=Qh (bstep HB.out hb lrf);have H2:=Qh (H1.out.keep hb);have cQ:=cq w2 (HPT.out _ HB2.out) (HST.out _ HB2.out);clear hb cW cw;go_wp2_with fail;(with_reducible refine cQ.mono ?_);rintro e w3 ⟨rfl,hb⟩;have HB3:=Qh (bstep HB2.out hb lrf);have H3:=Qh (H2.out.keep hb);clear hb cQ cq;have cG:=cg w3 H3.out;have cN:=cn w3 H3.out;rw[cN0]at cN;unfold PPost at cN;cases b
  ·have HVR:=Qh (show R=.bad 8 (headT ts).line (headT ts).col by rw[HRV.out,if_pos hk];simp);go_wp2_with fail;(with_reducible refine cG.mono ?_);rintro e w4 ⟨rfl,hb⟩;have HB4:=Qh (Only.of_below kp (bstep HB3.out hb lrf));clear hb cG;go_wp2_with fail;exact⟨rfl,by rw[HVR.out];exact⟨rfl,HB4.out⟩⟩
  ·by_cases hlt:n < below
   ·have HVR:=Qh (show R=.ok n ts.tail by rw[HRV.out,if_pos hk];simp[hlt]);have hli:¬ ((below:Int)≤n):=(by omega);go_wp2_with fail;(with_reducible refine cN.mono ?_);rintro e w4 ⟨rfl,ho,hp⟩;have HO:=Qh ((Only.of_below kp HB3.out).trans ho);have HP:=Qh hp;clear cN ho hp;go_wp2_with fail;go_ret;rw[HVR.out];exact⟨rfl,HO.out,HP.out⟩
   ·have HVR:=Qh (show R=.bad 8 (headT ts).line (headT ts).col by rw[HRV.out,if_pos hk];simp[hlt]);have hli:(below:Int)≤n:=(by omega);go_wp2_with fail;(with_reducible refine cG.mono ?_);rintro e w4 ⟨rfl,hb⟩;have HB4:=Qh (Only.of_below kp (bstep HB3.out hb lrf));clear hb cG;go_wp2_with fail;exact⟨rfl,by rw[HVR.out];exact⟨rfl,HB4.out⟩⟩
def idR (ts:List TokD):PR (Nat×Bool):=match wholeR 4294967296 ts with
 | .ok n ts'=>.ok (n % 2147483648,decide (2147483648≤n)) ts'
 | .bad no l c=>.bad no l c
theorem whole_lt {below n:Nat} {ts ts':List TokD} (h:wholeR below ts=.ok n ts'):n < below:=by
 unfold wholeR formR wrongR at h;split at h
 ·split at h
  ·rename_i h2
   cases h
   exact h2.2
  ·cases h
 ·cases h
set_option maxRecDepth 100000 in theorem id_any (ts : List TokD) (hts : TsOK ts) (hlen : (headT ts).text.length ≤ 1048576) (kp : Nat) (w : World) (h : PAt w kp ts) (hp : PowTab w) (hS : SentP w) :
  Calls prog 77 #[.pointer (some ⟨kp,0,none⟩)] w fun e w'=>PPost kp w (fun x=>.tuple #[.int .u32 (x.1:Nat),.bool x.2]) (idR ts) e w':=by
 have c:=whole_any 4294967296 (by decide) ts hts hlen kp w h hp hS;rw[show((4294967296:Nat):Int)=4294967296 from rfl]at c;obtain⟨R,hR⟩:∃ R,R=idR ts:=⟨_,rfl⟩
 rw[← hR];unfold idR at hR;cases hW:wholeR 4294967296 ts with
 | bad no l cc=>
  rw[hW]at c hR;have HVR:=Qh hR;clear hR hW;go_enter func77,ntmps77
  go_wp2_with fail;(with_reducible refine c.mono ?_);rintro e w1 ⟨rfl,ho⟩;have HO:=Qh ho;clear c ho;go_wp2_with fail;exact⟨rfl,by rw[HVR.out];exact⟨rfl,HO.out⟩⟩
 | ok n ts'=>
  have hlt:=whole_lt hW;rw[hW]at c hR;have HVR:=Qh hR;clear hR hW;go_enter func77,ntmps77
  go_wp2_with fail;(with_reducible refine c.mono ?_);rintro e w1 ⟨rfl,ho,hp1⟩;have HO:=Qh ho;have HP:=Qh hp1;have hbits:bits .and .u64 (n:Int) 2147483647=((n % 2147483648:Nat):Int):=by
   have:=bits_and_u64_nat n 2147483647 (by omega) (by decide);rw[show((2147483647:Nat):Int)=2147483647 from rfl]at this;rw[this,show n &&& 2147483647=n % 2147483648 from Nat.and_two_pow_sub_one_eq_mod n 31]
  have HQ:=Qh (show((n % 2147483648:Nat):Int) % 4294967296=((n % 2147483648:Nat):Int)by omega);have HD:=Qh (show((n:Int) / 2147483648 == 1)=decide (2147483648≤n)by
   by_cases h:2147483648≤n
   ·rw[decide_eq_true h,beq_iff_eq];omega
   ·rw[decide_eq_false h,beq_eq_false_iff_ne];omega)
  clear c ho hp1;generalize n % 2147483648=m at *;go_wp2_with fail;go_ret2
  rw[HVR.out];refine⟨?_,HO.out,HP.out⟩;rw[← HD.out];simp[HQ.out]
def fracP (s:List UInt8):Option (Int×Int)×Int:=
 if 96 < s.length then (none,3) else match readL s with
  | none=>(none,9)
  | some (neg,d,p)=>match parseF neg (valL d) p with
   | some x=>(some x,0)
   | none=>(none,9)
def fracR (ts:List TokD):PR (Int×Int):=
 if (headT ts).kind=2 then (match fracP (headT ts).text with
  | (some x,_)=>.ok x ts.tail
  | (none,m)=>wrongR m ts) else formR ts
theorem fracP_cases (s:List UInt8):(∃ n d,parseV s=.tuple #[.agg #[.int .i64 n,.int .i64 d],.nilIface]∧fracP s=(some (n,d),0)) ∨
  (∃ m:Int,parseV s=.tuple #[.agg #[.int .i64 0,.int .i64 0],errV m]∧fracP s=(none,if m=3 then 3 else 9)):=by
 unfold parseV fracP;by_cases h:96 < s.length
 ·rw[if_pos h,if_pos h];exact .inr ⟨3,rfl,rfl⟩
 ·rw[if_neg h,if_neg h];unfold parseR;cases readL s with
  | none=>exact .inr ⟨8,rfl,rfl⟩
  | some x=>
   obtain⟨neg,d,p⟩:=x;simp only;cases parseF neg (valL d) p with
   | none=>exact .inr ⟨9,rfl,rfl⟩
   | some y=>
    obtain⟨n,d'⟩:=y;exact .inl ⟨n,d',rfl,rfl⟩
theorem Only.new {kp:Nat} {w w':World} (h:Only kp w w') (k:Nat) (hk:w.heap.size≤k) (j:Nat) (v:Value):Only kp w (w'.setCell ⟨k,j,none⟩ v):=
 ⟨h.os,h.tape,h.output,by have:=h.size;simpa [World.setCell]using this,fun b hb hne=>(Below.heap_setCell _ _ _ _ (show b≠k by omega)).trans (h.block b hb hne)⟩
theorem rat_zeroP:(prog.info? 87).map (fun i=>(i.zero,i.size))=some (some (.agg #[.int .i64 0,.int .i64 0]),2):=by kernel_rfl
set_option maxRecDepth 100000 in theorem fraction_any (ts : List TokD) (hts : TsOK ts) (hlen : (headT ts).text.length ≤ 1048576) (kp : Nat) (w : World) (h : PAt w kp ts) :
  Calls prog 104 #[.pointer (some ⟨kp,0,none⟩)] w fun e w'=>PPost kp w (fun x=>.agg #[.int .i64 x.1,.int .i64 x.2]) (fracR ts) e w':=by
 have hpos:=hts.pos;have hb0:Below w.heap.size w (w.alloc (.cells #[.int .i64 0,.int .i64 0] 87)):=(Below.refl _ _).alloc lrf _;have cf:=fun W hW=>form_any ts hpos kp W hW
 have cg:=fun no W hW=>wrong_any no ts hpos kp W hW
 have cw:=fun W hW=>now_any ts hpos kp W hW
 have cn:=fun W hW=>next_any 2 ts hts kp W hW
 have cq:=fun W=>parse_any (headT ts).text (by omega) W
 unfold tkV enTok at cw;obtain⟨R,hR⟩:∃ R,R=fracR ts:=⟨_,rfl⟩
 rw[← hR];unfold fracR formR wrongR at hR;have HRV:=Qh hR;have hf1:=tk_f1;have hf0:=tk_f0;have HNR:=Qh (show(headT ts).kind=2→nextR 2 ts=.ok (headT ts) ts.tail from fun h=>by unfold nextR;rw[if_pos ⟨h,by decide⟩]);have h0:=h.keep hb0;have H0:=Qh h0;have K2:=Qh (heap_alloc_new w (.cells #[.int .i64 0,.int .i64 0] 87));have hkw:=h.lt;have cw0:=cw _ h0;have HB0:=Qh hb0;have hu:=underlying87;clear hR h hb0 h0;go_enter func104,ntmps104
 go_wp2_with fail;(with_reducible refine cw0.mono ?_);rintro e w1 ⟨rfl,hb⟩;have HB:=Qh (bstep HB0.out hb lrf);have H1:=Qh (H0.out.keep hb);have K1:=Qh (kind_at K2.out hb);clear cw0 hb H0 K2;by_cases hk:(headT ts).kind=2;case neg=>
  have HVR:=Qh (show R=.bad (formN ts) (headT ts).line (headT ts).col by rw[HRV.out,if_neg hk]);have e1:=bN hk;have cF:=cf w1 H1.out;generalize (headT ts).kind=K at *;go_wp2_with fail;(with_reducible refine cF.mono ?_);rintro e w2 ⟨rfl,hb⟩;have HB2:=Qh (Only.of_below kp (bstep HB.out hb lrf));clear hb cF;go_wp2_with fail;exact⟨rfl,by rw[HVR.out];exact⟨rfl,HB2.out⟩⟩
 case pos=>
  have cW:=cw w1 H1.out;have cN0:=HNR.out hk;rw[hk]at cW ⊢;go_wp2_with fail;(with_reducible refine cW.mono ?_);rintro e w2 ⟨rfl,hb⟩;have HB2:=Qh (bstep HB.out hb lrf);have H2:=Qh (H1.out.keep hb);have K3:=Qh (kind_at K1.out hb);clear hb cW cw K1;go_wp2_with fail;rcases fracP_cases (headT ts).text with ⟨n,d,hv,hfr⟩|⟨m,hv,hfr⟩
  ·have HVR:=Qh (show R=.ok (n,d) ts.tail by rw[HRV.out,if_pos hk,hfr]);have cQ:=cq w2;rw[hv]at cQ;(with_reducible refine cQ.mono ?_);rintro e w3 ⟨rfl,hb⟩;have HB3:=Qh (bstep HB2.out hb lrf);have H3:=Qh (H2.out.keep hb);have K4:=Qh (kind_at K3.out hb);clear hb cQ cq hv;have hb4:Below w3.heap.size w3 (w3.alloc (.cells #[.int .i64 n,.int .i64 d] 87)):=(Below.refl _ _).alloc lrf _;have HB4:=Qh (bstep HB3.out hb4 lrf);have H4:=Qh (H3.out.keep hb4);have K5:=Qh (kind_at K4.out hb4);have K3':=Qh (heap_alloc_new w3 (.cells #[.int .i64 n,.int .i64 d] 87));have hk3:w.heap.size < w3.heap.size:=(gE K4.out)
   have cI:=is_nilA 3;have cN:=cn _ H4.out;rw[cN0]at cN;unfold PPost at cN;clear hb4 cn cf cg K4 H3 K3;go_upto_region 4 with (refine wpList_newS (Z:=#[.int .i64 0,.int .i64 0]) (cs:=#[.int .i64 n,.int .i64 d]) 87 (.tmp 3) (.tmp 16) rat_zeroP rfl rfl ?_)
   generalize w3.heap.size=k3 at *;generalize w3.alloc (.cells #[.int .i64 n,.int .i64 d] 87)=W4 at *;go_wp2_with fail;with_reducible refine(cI _).mono ?_
   rintro e w4' ⟨rfl,rfl⟩;go_wp2_with fail;(with_reducible refine cN.mono ?_);rintro e w5 ⟨rfl,ho,hp⟩;have hz:w5.heap[w.heap.size]? = some (.cells #[.int .i64 0,.int .i64 0] 87):=(ho.block _ (gE K5.out) (by simp;omega)).trans K5.out;have hx:w5.heap[k3]? = some (.cells #[.int .i64 n,.int .i64 d] 87):=(ho.block _ (Array.getElem?_eq_some_iff.1 K3'.out).1 (by simp;omega)).trans K3'.out;have bz:Blk w5 w.heap.size #[.int .i64 0,.int .i64 0]:=⟨_,hz⟩
   have bx:Blk w5 k3 #[.int .i64 n,.int .i64 d]:=⟨_,hx⟩
   have HO:=Qh ((Only.of_below kp HB4.out).trans ho);have HP:=Qh hp;clear ho hp cN hz hx;obtain⟨r0,r1,r2,r3⟩:=bz.two;obtain⟨s0,s1,-,-⟩:=bx.two;go_wp2_with fail;refine bodyPost_ret (v:=.agg #[.int .i64 n,.int .i64 d]) (by simp[results,results104,go_sem,r0,r1]) rfl ?_;rw[HVR.out];exact⟨rfl,(HO.out.new _ lrf _ _).new _ lrf _ _,(HP.out.set hkw _ _).set hkw _ _⟩
  ·have HVR:=Qh (show R=.bad (if m=3 then 3 else 9) (headT ts).line (headT ts).col by rw[HRV.out,if_pos hk,hfr]);have cQ:=cq w2;rw[hv]at cQ;(with_reducible refine cQ.mono ?_);rintro e w3 ⟨rfl,hb⟩;have hb4:Below w3.heap.size w3 (w3.alloc (.cells #[.int .i64 0,.int .i64 0] 87)):=(Below.refl _ _).alloc lrf _;have HB4:=Qh (bstep (bstep HB2.out hb lrf) hb4 lrf);have H4:=Qh ((H2.out.keep hb).keep hb4);have cI:=is_errno m 3;have cG:=fun no=>cg no _ H4.out
   clear hb4 cn cf cg K3 H2 hb cQ cq hv;unfold errV;go_upto_region 4 with (refine wpList_newS (Z:=#[.int .i64 0,.int .i64 0]) (cs:=#[.int .i64 0,.int .i64 0]) 87 (.tmp 3) (.tmp 16) rat_zeroP rfl rfl ?_)
   generalize w3.heap.size=k3 at *;generalize w3.alloc (.cells #[.int .i64 0,.int .i64 0] 87)=W4 at *;go_wp2_with fail;with_reducible refine(cI _).mono ?_
   rintro e w4' ⟨rfl,rfl⟩;by_cases hm:m=3
   ·subst hm;go_wp2_with fail;with_reducible refine(cG 3).mono ?_
    rintro e w5 ⟨rfl,hb⟩;have HB5:=Qh (Only.of_below kp (bstep HB4.out hb lrf));clear hb cG;go_wp2_with fail;exact⟨rfl,by rw[HVR.out];exact⟨rfl,HB5.out⟩⟩
   ·have e3:=bN hm;go_wp2_with fail;with_reducible refine(cG 9).mono ?_
    rintro e w5 ⟨rfl,hb⟩;have HB5:=Qh (Only.of_below kp (bstep HB4.out hb lrf));clear hb cG;go_wp2_with fail;exact⟨rfl,by rw[HVR.out,if_neg hm];exact⟨rfl,HB5.out⟩⟩
open Go.RowKit
def skipF:Nat→List TokD→PR Unit
 | 0,ts=>.ok () ts
 | f+1,ts=>if seesB [59] ts then .ok () ts else match nextR (headT ts).kind ts with
  | .ok _ ts'=>skipF f ts'
  | .bad n l c=>.bad n l c
def commF:Nat→List TokD→PR Unit
 | 0,ts=>.ok () ts
 | f+1,ts=>if seesB [67,77,95] ts then (match skipF ts.tail.length ts.tail with
  | .ok _ ts'=>(match mustR [59] ts' with
   | .ok _ ts''=>commF f ts''
   | .bad n l c=>.bad n l c)
  | .bad n l c=>.bad n l c) else .ok () ts
def commentsR (ts:List TokD):PR Unit:=commF ts.length ts
def afterS (f:Nat) (r:PR Unit):PR Unit:=match r with
 | .ok _ t=>(match mustR [59] t with
  | .ok _ t'=>commF f t'
  | .bad n l c=>.bad n l c)
 | .bad n l c=>.bad n l c
theorem commF_succ (f:Nat) (ts:List TokD):commF (f+1) ts=if seesB [67,77,95] ts then afterS f (skipF ts.tail.length ts.tail) else .ok () ts:=rfl
def cntP (w:World) (kp:Nat):Nat:=match w.heap[kp]? with
 | some (Obj.cells C _ _)=>(match (C[0]?:Option Value)with
  | some (Value.slice _ n _)=>n
  | _=>0)
 | _=>0
theorem PAt.cnt {w:World} {kp:Nat} {ts:List TokD} (h:PAt w kp ts):cntP w kp=ts.length:=by
 obtain⟨a,cap,h1,-⟩:=h;unfold cntP;rw[h1];rfl
set_option maxRecDepth 100000 in theorem comments_any (ts : List TokD) (hts : TsOK ts) (kp : Nat) (w : World) (h : PAt w kp ts) :
  Calls prog 37 #[.pointer (some ⟨kp,0,none⟩)] w fun e w'=>PPost kp w (fun _=>.tuple #[]) (commentsR ts) e w':=by
 obtain⟨R,hR⟩:∃ R,R=commentsR ts:=⟨_,rfl⟩
 rw[← hR];unfold commentsR at hR;have H0:=Qh h;have HR:=Qh hR;clear hR h;go_enter func37,ntmps37
 go_wp2_with fail;go_loopw [] (fun wr=>∃ (ts1:List TokD) (f:Nat),TsOK ts1∧ts1.length≤f∧commF f ts1=R∧PAt wr kp ts1∧Only kp w wr) (fun wr=>cntP wr kp)
 case atStart=>exact⟨ts,ts.length,hts,lrf,HR.out.symm,H0.out,Only.of_below kp (Below.refl _ _)⟩
 case round=>
  obtain⟨ts1,f,ht1,hf,hr1,hp1,ho1⟩:=hrel;have cm:=pmay_any [67,77,95] ts1 ht1 kp wr hp1;have hpos:=ht1.pos;obtain⟨f',rfl⟩:∃ f',f=f' + 1:=⟨f - 1,by omega⟩
  rw[commF_succ]at hr1;unfold mayR at cm;have HC1:=Qh (PAt.cnt hp1);have HO1:=Qh ho1;have HKN:=Qh (fun h=>@sees_kind [67,77,95] ts1 h);generalize seesB [67,77,95] ts1=S at *;have HR1:=Qh hr1;clear hr1 ho1 hp1;cases S
  ·have HV:=Qh (show R=.ok () ts1 by rw[← HR1.out];rfl);simp only[Bool.false_eq_true,if_false]at cm;unfold PPost at cm;go_wp2_with fail;(with_reducible refine cm.mono ?_);rintro e w2 ⟨rfl,ho,hp⟩;have HO:=Qh (HO1.out.trans ho);have HP:=Qh hp;clear cm ho hp;go_wp2_with fail;refine⟨rfl,.tuple #[],by simp[results,results37],?_⟩;rw[HV.out];exact⟨rfl,HO.out,HP.out⟩
  ·have HV:=Qh (show R=afterS f' (skipF ts1.tail.length ts1.tail)by rw[← HR1.out];rfl);simp only[if_true]at cm;unfold PPost at cm;have ht2:=ht1.tail (HKN.out rfl);have hlt:ts1.tail.length < ts1.length:=(by rw[List.length_tail];omega);go_wp2_with fail;(with_reducible refine cm.mono ?_);rintro e w2 ⟨rfl,ho,hp⟩;have HO:=Qh (HO1.out.trans ho);have HP:=Qh hp;clear cm ho hp;generalize ts1.tail=ts2 at *;go_wp2_with fail;go_loopw [] (fun ww=>∃ (ts3:List TokD) (f3:Nat),TsOK ts3∧ts3.length≤f3∧R=afterS f' (skipF f3 ts3)∧PAt ww kp ts3∧Only kp w ww∧ts3.length < ts1.length) (fun ww=>cntP ww kp)
   case atStart=>exact⟨ts2,ts2.length,ht2,lrf,HV.out,HP.out,HO.out,hlt⟩
   case round=>
    obtain⟨ts3,f3,ht3,hf3,hr3,hp3,ho3,hl3⟩:=hrel;obtain⟨ww,hww⟩:∃ y,y=wr:=⟨_,rfl⟩
    subst hww;have cs:=sees_any [59] ts3 ht3.pos kp ww hp3;have cw:=fun W hW=>now_any ts3 ht3.pos kp W hW
    have cn:=fun W hW=>next_any (headT ts3).kind ts3 ht3 kp W hW
    have cmu:=fun W hW=>must_any [59] ts3 ht3 kp W hW
    unfold tkV enTok at cw;have hf0:=tk_f0;have hpos3:=ht3.pos;obtain⟨g,rfl⟩:∃ g,f3=g+1:=⟨f3 - 1,by omega⟩
    have HC3:=Qh (PAt.cnt hp3);have HP3:=Qh hp3;have HO3:=Qh ho3;have HKN3:=Qh (fun h=>@sees_kind [59] ts3 h);have HR3:=Qh (show R=afterS f' (if seesB [59] ts3 then .ok () ts3 else match nextR (headT ts3).kind ts3 with | .ok _ ts'=>skipF g ts' | .bad n l c=>.bad n l c)from hr3);have HMU:=Qh (show mustR [59] ts3=if seesB [59] ts3 then .ok (headT ts3) ts3.tail else formR ts3 from rfl);clear hr3 hp3 ho3;generalize seesB [59] ts3=S3 at *;go_wp2_with fail;(with_reducible refine cs.mono ?_);rintro e w4 ⟨rfl,hb⟩;have HO4:=Qh (HO3.out.trans (Only.of_below kp hb));have HP4:=Qh (HP3.out.keep hb);clear cs hb;cases S3
    ·have HV3:=Qh (show R=afterS f' (match nextR (headT ts3).kind ts3 with | .ok _ ts'=>skipF g ts' | .bad n l c=>.bad n l c)from HR3.out);have cW:=cw w4 HP4.out;go_wp2_with fail;(with_reducible refine cW.mono ?_);rintro e w5 ⟨rfl,hb⟩;have HO5:=Qh (HO4.out.trans (Only.of_below kp hb));have cN:=cn w5 (HP4.out.keep hb);clear cW cw hb;by_cases hk:(headT ts3).kind=0
     ·have HN:=Qh (show nextR (headT ts3).kind ts3=.bad (formN ts3) (headT ts3).line (headT ts3).col by unfold nextR;rw[if_neg (fun h=>h.2 hk)];rfl);have HVR:=Qh (show R=.bad (formN ts3) (headT ts3).line (headT ts3).col by rw[HV3.out,HN.out];rfl);rw[HN.out,hk]at cN;unfold PPost at cN;go_wp2_with fail;(with_reducible refine cN.mono ?_);rintro e w6 ⟨rfl,ho⟩;have HO6:=Qh (HO5.out.trans ho);clear cN ho;go_wp2_with fail;exact⟨rfl,by rw[HVR.out];exact⟨rfl,HO6.out⟩⟩
     ·have HN:=Qh (next_self hk);have HVR:=Qh (show R=afterS f' (skipF g ts3.tail)by rw[HV3.out,HN.out]);have ht4:=ht3.tail hk;rw[HN.out]at cN;unfold PPost at cN;go_wp2_with fail;(with_reducible refine cN.mono ?_);rintro e w6 ⟨rfl,ho,hp⟩;have HO6:=Qh (HO5.out.trans ho);have HP6:=Qh hp;have HC6:=Qh (PAt.cnt hp);clear cN ho hp;go_wp2_with fail;go_roundw;case rel=>exact⟨ts3.tail,g,ht4,by rw[List.length_tail];omega,HVR.out,HP6.out,HO6.out,by rw[List.length_tail];omega⟩
      case measure=>rw[HC6.out,HC3.out,List.length_tail];omega
    ·have HM:=Qh (show mustR [59] ts3=.ok (headT ts3) ts3.tail by rw[HMU.out];rfl);have HV3:=Qh (show R=afterS f' (.ok () ts3)from HR3.out);have HVR:=Qh (show commF f' ts3.tail=R by
      rw[HV3.out];show _=(match mustR [59] ts3 with | .ok _ t'=>commF f' t' | .bad n l c=>PR.bad n l c);rw[HM.out])
     have ht4:=ht3.tail (HKN3.out rfl);have cM:=cmu w4 HP4.out;rw[HM.out]at cM;unfold PPost at cM;go_wp2_with fail;(with_reducible refine cM.mono ?_);rintro e w6 ⟨rfl,ho,hp⟩;have HO6:=Qh (HO4.out.trans ho);have HP6:=Qh hp;have HC6:=Qh (PAt.cnt hp);clear cM ho hp cmu cn cw;go_wp2_with fail;go_roundw;case rel=>exact⟨ts3.tail,f',ht4,by rw[List.length_tail];omega,HVR.out,HP6.out,HO6.out⟩
     case measure=>rw[HC6.out,HC1.out,List.length_tail];omega
structure Only2 (kp ks:Nat) (w w':World):Prop where
 os:w'.os=w.os
 tape:w'.tape=w.tape
 output:w'.output=w.output
 size:w.heap.size≤w'.heap.size
 block:∀ k,k < w.heap.size→k≠kp→k≠ks→w'.heap[k]? = w.heap[k]?
theorem Only2.of_only {kp ks:Nat} {w w':World} (h:Only kp w w'):Only2 kp ks w w':=⟨h.os,h.tape,h.output,h.size,fun k hk h1 _=>h.block k hk (by simpa using h1)⟩
theorem Only2.trans {kp ks:Nat} {w w' w'':World} (h:Only2 kp ks w w') (h':Only2 kp ks w' w''):Only2 kp ks w w'':=
 ⟨h'.os.trans h.os,h'.tape.trans h.tape,h'.output.trans h.output,Nat.le_trans h.size h'.size,fun k hk h1 h2=>(h'.block k (Nat.lt_of_lt_of_le hk h.size) h1 h2).trans (h.block k hk h1 h2)⟩
theorem Only2.set {kp ks:Nat} {w w':World} (h:Only2 kp ks w w') (j:Nat) (v:Value):Only2 kp ks w (w'.setCell ⟨ks,j,none⟩ v):=
 h.trans ⟨rfl,rfl,rfl,by simp[World.setCell],fun k _ _ h2=>Below.heap_setCell _ _ _ _ (show k≠ks from h2)⟩
theorem trim_len (s p:List UInt8):(Lib.trimPrefix s p).length≤s.length:=by
 unfold Lib.trimPrefix;split
 ·rw[List.length_drop];omega
 ·exact lrf
def roleR (ts:List TokD):PR (Int×Nat):=
 if (headT ts).kind=1 then (if (headT ts).text=[77] then .ok (1,0) ts.tail else
  if Lib.hasPrefix (headT ts).text [109]=true∧(numP (Lib.trimPrefix (headT ts).text [109])).2=true then .ok (2,(numP (Lib.trimPrefix (headT ts).text [109])).1) ts.tail else formR ts)
 else .ok (0,0) ts
def setRole (C:Array Value) (x:Int×Nat):Array Value:=if x.1=0 then C else if x.1=1 then C.setIfInBounds 3 (.int .i64 1) else (C.setIfInBounds 3 (.int .i64 2)).setIfInBounds 4 (.int .u64 (x.2:Nat))
def RPost (kp ks:Nat) (C:Array Value) (w:World) (R:PR (Int×Nat)) (e:Ending) (w':World):Prop:=match R with
 | .ok x ts=>e=.returned (.tuple #[])∧Only2 kp ks w w'∧PAt w' kp ts∧w'.heap[ks]? = some (.cells (setRole C x) 89)
 | .bad no l c=>e=.panicked [{ v:=faultV no l c,recovered:=false }]∧Only2 kp ks w w'
set_option maxRecDepth 100000 in theorem prole_any (ts : List TokD) (hts : TsOK ts) (hlen : (headT ts).text.length ≤ 1048576) (kp ks : Nat) (hks : kp < ks) (C : Array Value) (r0 : Int) (b0 : Nat) (h3 : C[3]? = some (.int .i64 r0)) (h4 : C[4]? = some (.int .u64 (b0 : Nat)))
  (w:World) (h:PAt w kp ts) (hC:w.heap[ks]? = some (.cells C 89)) (hp:PowTab w) (hS:SentP w) :
  Calls prog 103 #[.pointer (some ⟨kp,0,none⟩),.pointer (some ⟨ks,0,none⟩)] w fun e w'=>RPost kp ks C w (roleR ts) e w':=by
 have hpos:=hts.pos;have c:=now_any ts hpos kp w h;have cf:=fun W hW=>form_any ts hpos kp W hW
 have cn:=fun W hW=>next_any 1 ts hts kp W hW
 unfold tkV at c;have hL1:=tok_one (headT ts);obtain⟨R,hR⟩:∃ R,R=roleR ts:=⟨_,rfl⟩
 rw[← hR];unfold roleR formR wrongR at hR;have HNR:=Qh (show(headT ts).kind=1→nextR 1 ts=.ok (headT ts) ts.tail from fun h=>by unfold nextR;rw[if_pos ⟨h,by decide⟩]);have HE:=Qh (show(enTok (headT ts)).toArray=#[.int .i64 (headT ts).kind,.string ⟨(headT ts).text.toArray⟩,.int .i64 (headT ts).line,.int .i64 (headT ts).col]from rfl);have hsz:(enTok (headT ts)).toArray.size=4:=rfl;have HRV:=Qh hR;have H0:=Qh h;have HC0:=Qh hC;have hksw:ks < w.heap.size:=(gE hC)
 have HPT:=Qh (fun W (h:Below w.heap.size w W)=>PowTab.keep hp h);have HST:=Qh (fun W (h:Below w.heap.size w W)=>SentP.keep hS h);clear hR h hC hp hS;generalize hLL:(enTok (headT ts)).toArray=L at *;have HLL:=Qh hLL;clear hLL;go_enter func103,ntmps103
 go_wp2_with fail;(with_reducible refine c.mono ?_);rintro e w1 ⟨rfl,hb⟩;have HB:=Qh (hb.alloc hb.size (.cells L 97));have hk1:w.heap.size≤w1.heap.size:=hb.size;clear c hb;go_upto_region 1 with (refine wpList_newS (Z:=zeroTok) (cs:=L) 97 (.tmp 4) (.tmp 10) (by rw[hsz];exact tok_zero) (by rw[hsz];rfl) hL1 ?_)
 have b5:=Blk.new w1 L 97;have HB5:=Qh b5;have f0:(w1.alloc (.cells L 97)).cell? ⟨w1.heap.size,0,none⟩=some (.int .i64 (headT ts).kind):=b5.cell 0 _ (by rw[HE.out];rfl);have f1:(w1.alloc (.cells L 97)).cell? ⟨w1.heap.size,1,none⟩=some (.string ⟨(headT ts).text.toArray⟩):=b5.cell 1 _ (by rw[HE.out];rfl);have H1:=Qh (H0.out.keep HB.out);have HC1:=Qh (kind_at HC0.out HB.out);clear b5;generalize hk5:w1.heap.size=k5 at *;generalize w1.alloc (.cells L 97)=W at *;by_cases hk:(headT ts).kind=1;case neg=>
  have HV:=Qh (show R=.ok (0,0) ts by rw[HRV.out,if_neg hk]);have e1:=bN hk;generalize (headT ts).kind=K at *;go_wp2_with fail;refine⟨rfl,.tuple #[],by simp[results,results103],?_⟩;rw[HV.out];exact⟨rfl,Only2.of_only (Only.of_below kp HB.out),H1.out,HC1.out⟩
 case pos=>
  have cNR:=HNR.out hk;rw[hk]at f0;have hcp:∀ W',Calls prog 128 #[.string ⟨(headT ts).text.toArray⟩,.string ⟨#[109]⟩] W' fun e w'=>e=.returned (.tuple #[.string ⟨(Lib.trimPrefix (headT ts).text [109]).toArray⟩,.bool (Lib.hasPrefix (headT ts).text [109])])∧w' = W':=fun W'=>Tryz.strings_CutPrefix ⟨(headT ts).text.toArray⟩ ⟨#[109]⟩ W'
  have cq:=fun W h1 h2=>pnum_any (Lib.trimPrefix (headT ts).text [109]) (Nat.le_trans (trim_len _ _) hlen) W h1 h2
  have HRV2:=Qh (HRV.out.trans (if_pos hk));generalize hn:numP (Lib.trimPrefix (headT ts).text [109])=nv at *;obtain⟨n,b⟩:=nv;simp only at cq;clear hn HRV;generalize Lib.trimPrefix (headT ts).text [109]=D at *;generalize Lib.hasPrefix (headT ts).text [109]=P at *;go_wp2_with fail;with_reducible refine(hcp _).mono ?_
  rintro e w2 ⟨rfl,rfl⟩;have cQ:=cq w2 (HPT.out _ HB.out) (HST.out _ HB.out);clear hcp cq;go_wp2_with fail;(with_reducible refine cQ.mono ?_);rintro e w3 ⟨rfl,hb⟩;have HB3:=Qh (bstep HB.out hb lrf);have H3:=Qh (H1.out.keep hb);have HC3:=Qh (kind_at HC1.out hb);have g1:=cell_keep' f1 hb;clear cQ hb f0 f1;have c3:=Blk.cell ⟨_,HC3.out⟩ 3 _ h3;have c4:=Blk.cell ⟨_,HC3.out⟩ 4 _ h4;have r3:=Blk.free ⟨_,HC3.out⟩ 3;have r4:=Blk.free ⟨_,HC3.out⟩ 4;by_cases hM:(headT ts).text=[77]
  ·have HV:=Qh (show R=.ok (1,0) ts.tail by rw[HRV2.out,if_pos hM]);rw[hM]at g1;have N4:=Qh (set_at HC3.out 3 (.int .i64 1));have P4:=Qh (H3.out.set hks 3 (.int .i64 1));have O4:=Qh ((Only2.of_only (ks:=ks) (Only.of_below kp HB3.out)).set 3 (.int .i64 1));have hkw4:ks < (w3.setCell ⟨ks,3,none⟩ (.int .i64 1)).heap.size:=(gE N4.out)
   have cN:=cn _ P4.out;rw[cNR]at cN;unfold PPost at cN;clear cn cf c4 r4;go_upto_region 9 with fail
   clear g1 c3 r3;generalize w3.setCell ⟨ks,3,none⟩ (.int .i64 1)=W4 at *;go_wp2_with fail;(with_reducible refine cN.mono ?_);rintro e w5 ⟨rfl,ho,hp⟩;have HO:=Qh (O4.out.trans (Only2.of_only ho));have HP:=Qh hp;have HN:=Qh ((ho.block ks hkw4 (by simp;omega)).trans N4.out);clear cN ho hp;go_wp2_with fail;refine⟨rfl,.tuple #[],by simp[results,results103],?_⟩;rw[HV.out];exact⟨rfl,HO.out,HP.out,HN.out⟩
  ·have eM:=bN hM;by_cases hb2:P=true∧b=true
   ·obtain⟨rfl,rfl⟩:=hb2;have HV:=Qh (show R=.ok (2,n) ts.tail by rw[HRV2.out,if_neg hM,if_pos ⟨rfl,rfl⟩]);have N4:=Qh (set_at (set_at HC3.out 3 (.int .i64 2)) 4 (.int .u64 (n:Nat)));have P4:=Qh ((H3.out.set hks 3 (.int .i64 2)).set hks 4 (.int .u64 (n:Nat)));have O4:=Qh (((Only2.of_only (ks:=ks) (Only.of_below kp HB3.out)).set 3 (.int .i64 2)).set 4 (.int .u64 (n:Nat)));have hkw4:ks < ((w3.setCell ⟨ks,3,none⟩ (.int .i64 2)).setCell ⟨ks,4,none⟩ (.int .u64 (n:Nat))).heap.size:=(gE N4.out)
    have cN:=cn _ P4.out;rw[cNR]at cN;unfold PPost at cN;clear cn cf;go_upto_region 9 with fail
    clear g1 c3 r3 c4 r4;generalize (w3.setCell ⟨ks,3,none⟩ (.int .i64 2)).setCell ⟨ks,4,none⟩ (.int .u64 (n:Nat))=W4 at *;go_wp2_with fail;(with_reducible refine cN.mono ?_);rintro e w5 ⟨rfl,ho,hp⟩;have HO:=Qh (O4.out.trans (Only2.of_only ho));have HP:=Qh hp;have HN:=Qh ((ho.block ks hkw4 (by simp;omega)).trans N4.out);clear cN ho hp;go_wp2_with fail;refine⟨rfl,.tuple #[],by simp[results,results103],?_⟩;rw[HV.out];exact⟨rfl,HO.out,HP.out,HN.out⟩
   ·have HV:=Qh (show R=.bad (formN ts) (headT ts).line (headT ts).col by rw[HRV2.out,if_neg hM,if_neg hb2]);have cF:=cf w3 H3.out;have hpb:(P && b)=false:=(by cases P<;>cases b<;>simp_all);cases P
    ·clear hb2 hpb;go_wp2_with fail;(with_reducible refine cF.mono ?_);rintro e w4 ⟨rfl,hb⟩;have HB4:=Qh (Only2.of_only (ks:=ks) (Only.of_below kp (bstep HB3.out hb lrf)));clear hb cF;go_wp2_with fail;exact⟨rfl,by rw[HV.out];exact⟨rfl,HB4.out⟩⟩
    ·have hb0:b=false:=(by simpa using hpb);subst hb0;clear hb2 hpb;go_wp2_with fail;(with_reducible refine cF.mono ?_);rintro e w4 ⟨rfl,hb⟩;have HB4:=Qh (Only2.of_only (ks:=ks) (Only.of_below kp (bstep HB3.out hb lrf)));clear hb cF;go_wp2_with fail;exact⟨rfl,by rw[HV.out];exact⟨rfl,HB4.out⟩⟩
def TsB (ts:List TokD):Prop:=TsOK ts∧(∀ t∈ts,t.text.length≤1048576)∧ts.length≤4000000
theorem TsB.tail {ts:List TokD} (h:TsB ts) (hk:(headT ts).kind≠0):TsB ts.tail:=⟨h.1.tail hk,fun t ht=>h.2.1 t (List.mem_of_mem_tail ht),by have:=h.2.2;rw[List.length_tail];omega⟩
theorem TsB.head {ts:List TokD} (h:TsB ts):(headT ts).text.length≤1048576:=by
 rw[headT_get h.1.pos];exact h.2.1 _ (List.getElem_mem _)
theorem PR.bind_ok {α β:Type} (x:α) (ts:List TokD) (f:α→List TokD→PR β):(PR.ok x ts).bind f=f x ts:=rfl
theorem PR.bind_bad {α β:Type} (n l c:Int) (f:α→List TokD→PR β):(PR.bad n l c:PR α).bind f=.bad n l c:=rfl
theorem next_ok {kind:Int} {ts ts':List TokD} {x:TokD} (h:nextR kind ts=.ok x ts') (hb:TsB ts):TsB ts'∧x=headT ts∧ts' = ts.tail∧(headT ts).kind=kind:=by
 unfold nextR formR wrongR at h;split at h
 ·rename_i hk
  cases h
  exact⟨hb.tail (by rw[hk.1];exact hk.2),rfl,rfl,hk.1⟩
 ·cases h
theorem must_ok {text:List UInt8} {ts ts':List TokD} {x:TokD} (h:mustR text ts=.ok x ts') (hb:TsB ts):TsB ts'∧x=headT ts∧ts' = ts.tail:=by
 unfold mustR formR wrongR at h;split at h
 ·rename_i hk
  cases h
  exact⟨hb.tail (sees_kind hk),rfl,rfl⟩
 ·cases h
theorem may_ok {text:List UInt8} {ts ts':List TokD} {x:Bool} (h:mayR text ts=.ok x ts') (hb:TsB ts):TsB ts'∧ts'.length≤ts.length∧(x=true→ts'.length < ts.length):=by
 unfold mayR at h;have hp:=hb.1.pos;split at h
 ·rename_i hk
  cases h
  exact⟨hb.tail (sees_kind hk),by rw[List.length_tail];omega,fun _=>by rw[List.length_tail];omega⟩
 ·cases h
  exact⟨hb,lrf,fun e=>by cases e⟩
theorem name_ok {ts ts':List TokD} {x:List UInt8} (h:nameR ts=.ok x ts') (hb:TsB ts):TsB ts'∧x=(headT ts).text∧x.length≤64∧ts' = ts.tail:=by
 unfold nameR formR wrongR at h;split at h
 ·rename_i hk
  split at h
  ·rename_i hl
   cases h
   exact⟨hb.tail (by rw[named_kind hk];decide),rfl,hl,rfl⟩
  ·cases h
 ·cases h
theorem whole_ok {below n:Nat} {ts ts':List TokD} (h:wholeR below ts=.ok n ts') (hb:TsB ts):TsB ts'∧n < below∧ts' = ts.tail:=by
 refine⟨?_,whole_lt h,?_⟩<;>(unfold wholeR formR wrongR at h;split at h)
 ·rename_i hk
  split at h
  ·cases h
   exact hb.tail (by rw[hk];decide)
  ·cases h
 ·cases h
 ·split at h
  ·cases h;rfl
  ·cases h
 ·cases h
theorem frac_ok {ts ts':List TokD} {x:Int×Int} (h:fracR ts=.ok x ts') (hb:TsB ts):TsB ts'∧ts' = ts.tail∧∃ m,fracP (headT ts).text=(some x,m):=by
 unfold fracR formR wrongR at h;split at h
 ·rename_i hk
  split at h
  ·rename_i y m hf
   cases h
   exact⟨hb.tail (by rw[hk];decide),rfl,m,hf⟩
  ·cases h
 ·cases h
theorem role_ok {ts ts':List TokD} {x:Int×Nat} (h:roleR ts=.ok x ts') (hb:TsB ts):TsB ts'∧ts'.length≤ts.length:=by
 have hp:=hb.1.pos;unfold roleR formR wrongR at h;split at h
 ·rename_i hk
  have ht:=hb.tail (by rw[hk];decide);split at h
  ·cases h
   exact⟨ht,by rw[List.length_tail];omega⟩
  ·split at h
   ·cases h
    exact⟨ht,by rw[List.length_tail];omega⟩
   ·cases h
 ·cases h
  exact⟨hb,lrf⟩
theorem skip_ok:∀ (f:Nat) {ts ts':List TokD} {x:Unit},skipF f ts=.ok x ts'→TsB ts→TsB ts'∧ts'.length≤ts.length
 | 0,ts,ts',x,h,hb=>by
  unfold skipF at h;cases h
  exact⟨hb,lrf⟩
 | f+1,ts,ts',x,h,hb=>by
  unfold skipF at h;split at h
  ·cases h
   exact⟨hb,lrf⟩
  ·split at h
   ·rename_i y ts2 hn
    obtain⟨h1,-,h2,-⟩:=next_ok hn hb;have h3:=skip_ok f h h1;rw[h2,List.length_tail]at h3;rw[h2]at h1;exact⟨h3.1,by omega⟩
   ·cases h
theorem comm_ok:∀ (f:Nat) {ts ts':List TokD} {x:Unit},commF f ts=.ok x ts'→TsB ts→TsB ts'∧ts'.length≤ts.length
 | 0,ts,ts',x,h,hb=>by
  unfold commF at h;cases h
  exact⟨hb,lrf⟩
 | f+1,ts,ts',x,h,hb=>by
  rw[commF_succ]at h;split at h
  ·rename_i hs
   have hb2:=hb.tail (sees_kind hs);unfold afterS at h;split at h
   ·rename_i y t hk
    have h1:=skip_ok _ hk hb2;split at h
    ·rename_i z t' hm
     obtain⟨h2,-,h3⟩:=must_ok hm h1.1;have h4:=comm_ok f h h2;rw[h3,List.length_tail]at h4;have:=h1.2;rw[List.length_tail]at this;exact⟨h4.1,by omega⟩
    ·cases h
   ·cases h
  ·cases h
   exact⟨hb,lrf⟩
end Go.Proofs.YtkblpaabknjckaaGreatDoor
