/-
  Are the parts a database's? The law's own look, where they are. (Printed by gen_isn.py.)
-/
import Derived.Test.YtfflljgnpfldfaaGreatDoorSamA
set_option linter.all false
set_option maxHeartbeats 128000000
set_option maxRecDepth 100000
namespace Go.Proofs.YtfflljgnpfldfaaGreatDoor
open Go.Proofs.Tryz
open Go.RowKit
theorem Q6 {P:Program} {t:TypeId} {fs:Array Field} (hu:P.underlying t=some (.struct fs)) (v:Value) (xT:TypeId) (w:World):(Instr.typeAssert (.iface t v) xT t true).run P w=.ok (.tuple #[v,.bool true]) w:=by
 unfold Instr.typeAssert;simp only[rT,run_underlying hu,Result.andThen];simp
theorem amc (v:Value) (xT:TypeId) (w:World):(Instr.typeAssert (.iface 26 v) xT 26 true).run prog w=.ok (.tuple #[v,.bool true]) w:=Q6 underlying26 v xT w
theorem aem (v:Value) (xT:TypeId) (w:World):(Instr.typeAssert (.iface 29 v) xT 29 true).run prog w=.ok (.tuple #[v,.bool true]) w:=Q6 underlying29 v xT w
theorem aen (v:Value) (xT:TypeId) (w:World):(Instr.typeAssert (.iface 39 v) xT 39 true).run prog w=.ok (.tuple #[v,.bool true]) w:=Q6 underlying39 v xT w
theorem aeo (v:Value) (xT:TypeId) (w:World):(Instr.typeAssert (.iface 43 v) xT 43 true).run prog w=.ok (.tuple #[v,.bool true]) w:=Q6 underlying43 v xT w
theorem D1 {P:Program} {ops:Array Oper} {C:World→Prop} {Q:Act→Prop} {rest:List Oper} {o:Oper} {a:Act} {k off:Nat} {cs:List Value} (hS:∀ w,C w→w.rangeAt k off cs) (ty:TypeId) (x:Operand) {d:TypeDesc}
  (hu:P.underlying ty=some d) (hi:(P.info? ty).map (·.size)=some cs.length)
  (h:wpQuiet P ops C Q rest (a.put o.dst (.agg cs.toArray)))
  (hgd:Region.wanted o (yielded ops a.tmps)=true:=by rfl) (ho:o.op=.load ty x:=by rfl) (hx:a.eval x=.pointer (some ⟨k,off,none⟩):=by rfl) (hd:d.isRow=true:=by rfl):wpQuiet P ops C Q (o::rest) a:=by
 unfold wpQuiet;rw[if_pos hgd];refine⟨_,fun w hw=>?_,h⟩;unfold Oper.quietAt execOp;simp only[ho,hx,Instr.loadAt,Instr.sureAddr,rT,Sem.run_pure,Fu,run_loadVar_mid (P:=P) w k off ty cs d (hS w hw) hu hd hi];exact⟨rfl,rfl⟩
theorem aep (d:aS):(bI d).length=(if d.has then 1 else 0)+1+d.msgs.length+d.tabs.length:=by
 unfold bI;split<;>simp<;>omega
theorem amd (d:aS) (at_:Nat) (ha:at_=if d.has then 1 else 0) {i:Nat} (hi:i < d.msgs.length):(bI d)[at_+1+i]? = some (.msg d.msgs[i]):=by
 subst ha;unfold bI;cases d.has
 ·simp only[zC,tj,mf];rw[show 0+1+i=i+1 by omega,Fo,Bp (by simpa using hi)];simp[hi]
 ·simp only[kG,uD,mf];rw[show 1+1+i=i+1+1 by omega,Fo,Fo,Bp (by simpa using hi)];simp[hi]
theorem ame (d:aS) (at_:Nat) (ha:at_=if d.has then 1 else 0) {i:Nat} (hi:i < d.tabs.length):(bI d)[at_+1+d.msgs.length+i]? = some (.tab d.tabs[i]):=by
 subst ha;unfold bI;cases d.has
 ·simp only[zC,tj,mf];rw[show 0+1+d.msgs.length+i=d.msgs.length+i+1 by omega,Fo,LG aB];simp[hi]
 ·simp only[kG,uD,mf];rw[show 1+1+d.msgs.length+i=d.msgs.length+i+1+1 by omega,Fo,Fo,LG aB];simp[hi]
theorem F4 {w:World} {a:Option Addr} {cap:Nat} {l:List aX} {k:Nat} {y:aX} (hs:ei w wu 1 a cap l) (hk:l[k]? = some y):∃ b o,a=some ⟨b,o,none⟩∧b < w.heap.size∧∃ v,wu w y [v]∧w.cell? ⟨b,o+k,none⟩=some v:=by
 obtain⟨h,e⟩:=zt.1 hk;obtain⟨b,o,h1,h2,cs,h3,h4,h5⟩:=hs.at ah h;obtain⟨v,rfl⟩:=List.length_eq_one_iff.1 h3;rw[e]at h4;exact⟨b,o,h1,h2,v,h4,by simpa using h5 0 v rfl⟩
theorem aeq {w:World} {x:bj} {C:Array Value} (h:ru w x C.toList):C.size=8∧C.all (·.oneCell')=true:=by
 obtain⟨a,p,h1,-⟩:=h;obtain rfl:=eA.1 h1;exact⟨rfl,bj.cells_one _ _ _ _⟩
theorem aer {w:World} {x:bK} {C:Array Value} (h:su w x C.toList):C.size=6∧C.all (·.oneCell')=true:=by
 obtain⟨a,p,h1,-⟩:=h;obtain rfl:=eA.1 h1;exact⟨rfl,bK.cells_one _ _ _ _⟩
theorem amf (a b:Int) (s:ByteArray) (W:World):(binOp .neq 26 (.agg #[.int .i64 a,.int .i64 b,.string s]) (.agg #[.int .i64 a,.int .i64 b,.string s])).run prog W=.ok (.bool false) W:=by
 go_simp
theorem amg (d:aS) (n:Nat) (hn:n=(bI d).length) (hmx:n≤100000000) (a:Option Addr) (cap:Nat) (w:World) (hs:ei w wu 1 a cap (bI d)) (C:Array Value) (hC:rf w d C.toList) :
  Calls prog 24 #[.slice a n cap,.agg C] w fun e w'=>e=.returned (.bool true)∧Below w.heap.size w w':=by
 obtain⟨pa,pn,pb,pm,pc,pt,eC,hN,hM,hT⟩:=hC;obtain rfl:=eA.1 eC;clear eC;rw[aep]at hn;have Q7:=underlying39;have Q8:=underlying43;have Vz:=amc;have BI:=aem;have hmm:=aen;have htt:=aeo;have We:=Qh amf;have Jh:=Qh (fun at_ ha i (hi:i < d.msgs.length)=>amd d at_ ha hi);have Ji:=Qh (fun at_ ha i (hi:i < d.tabs.length)=>ame d at_ ha hi);have rA:=Qh hs;cases hh:d.has with
 | false=>
  rw[hh]at hn;replace hn:n=1+d.msgs.length+d.tabs.length:=Iu;have MD:(bI d)[0]? = some (.aR d.aR):=(by unfold bI;rw[hh];rfl);obtain⟨bs,os,rfl,BX,vs,F5,hcs⟩:=F4 hs MD;obtain⟨D,hD,F5⟩:=F5;obtain rfl:vs=.iface 29 (.agg D):=by simpa using hD
  clear hD MD;obtain⟨F6,F7,eD,zV⟩:=F5;obtain rfl:D=#[.int .i64 d.aR.line,.int .i64 d.aR.ak,.slice F6 d.aR.names.length F7]:=eA.1 eD;clear eD;rw[q7]at hcs;have FN:=Qh (fun W (hb:Below w.heap.size w W)=>Wf d.aR W #[.int .i64 d.aR.line,.int .i64 d.aR.ak,.slice F6 d.aR.names.length F7] #[.int .i64 d.aR.line,.int .i64 d.aR.ak,.slice pa d.aR.names.length pn] ⟨F6,F7,rfl,zV.keep hb af⟩ ⟨pa,pn,rfl,hN.keep hb af⟩);have eE:=Qh (show ∀ o1 o2,Below w.heap.size w (((w.alloc o1).alloc o2))from fun o1 o2=>((aC w.heap.size w).alloc af o1).alloc aB o2);have HM:=Qh hM;have HT:=Qh hT;clear hN zV hM hT hs;unfold aS.cells;rw[hh];have ZB:=Qh (fun o2=>ai.alloc (ai.new w #[.bool false,.int .i64 d.bG.line,.int .i64 d.bG.ak,.string ⟨d.bG.text.toArray⟩,.int .i64 d.aR.line,.int .i64 d.aR.ak,.slice pa d.aR.names.length pn,.slice pb d.msgs.length pm,.slice pc d.tabs.length pt] 33) o2);have Jh:=Qh (Jh.o 0 (by rw[hh];rfl));have Ji:=Qh (Ji.o 0 (by rw[hh];rfl));generalize bI d=l at *;generalize d.msgs=ms at *;generalize d.tabs=tb at *;generalize d.bG.line=vl at *;generalize d.bG.ak=vc at *;generalize d.bG.text=vt at *;generalize d.aR.line=sl at *;generalize d.aR.ak=sc at *;generalize d.aR.names.length=nn at *;subst hn;clear hh;go_enter func24,ntmps24
  go_wp2_with fail;with_reducible refine(FN.o _ (eE.o _ _)).mono ?_
  rintro e w2 ⟨rfl,hb⟩;have aM:=Qh (aH (eE.o _ _) hb aB);have zb:=(ZB.o _).keep hb af;have sR:=Qh zb;clear hb zb ZB eE FN;go_wp2_with fail;go_loopw [10] (fun kv wr=>∃ i:Nat,i≤ms.length∧kv=.int .i64 (i:Nat)∧Below w.heap.size w wr∧ai wr w.heap.size #[.bool false,.int .i64 vl,.int .i64 vc,.string ⟨vt.toArray⟩,.int .i64 sl,.int .i64 sc,.slice pa nn pn,.slice pb ms.length pm,.slice pc tb.length pt]) (fun kv _=>ms.length - (intOf kv).toNat)
  case atStart=>exact⟨0,bV _,rfl,aM.o,sR.o⟩
  case round=>
   clear aM sR;obtain⟨i,hi,rfl,bh,po⟩:=hrel;have f7:=po.cell 7 _ rfl;have f8:=po.cell 8 _ rfl;have bE:=Qh bh;have xZ:=Qh po;clear po;by_cases hlt:(i:Int) < ms.length
   ·have a8:i < ms.length:=ae;obtain⟨Wh,os3,e3,hb3,vm,iG,hcm⟩:=F4 (rA.o.keep B3 bh) (Jh.o i a8);cases e3
    obtain⟨E,hE,iG⟩:=iG;obtain rfl:vm=.iface 39 (.agg E):=by simpa using hE
    obtain⟨nB,pV⟩:=aeq iG;obtain⟨es,rfl⟩:∃ es:List Value,E=es.toArray:=⟨E.toList,aB⟩
    have iG:ru wr ms[i] es:=(by simpa using iG);obtain⟨bb,ob,wy,gh,ds,fY,kW,lX⟩:=ei.at (HM.o.keep iE bh) ah a8;subst wy;have Wi:(1+(i:Int)).toNat=1+i:=ae;have hix:(1+(i:Int)) < (1:Int)+ms.length+tb.length:=ae;have Wj:0≤1+(i:Int):=ae;rw[show 0+1+i=1+i by omega]at hcm;have hb5:Below wr.heap.size wr (wr.alloc (.cells es.toArray 39)):=(aC _ _).alloc af _;have jm:=ai.new wr es.toArray 39;have ye:=jm.range;have hzb:=xZ.o.alloc (.cells es.toArray 39);have g7:=hzb.cell 7 _ rfl;have yf:=iE _ _ _ _ iG hb5;have yg:=iE _ _ _ _ kW hb5;have yh:(wr.alloc (.cells es.toArray 39)).rangeAt bb (ob+i*8) ds:=fun j v hv=>dx (lX j v hv) hb5
    have ir:=Qh (aH bE.o hb5 af);have CZ:=Qh hzb;have sQ:=Qh ye;have F8:=Qh g7;have AW:=Qh yf;have AX:=Qh yg;have vp:=Qh yh;clear hE iG kW lX jm ye hzb g7 yf yg yh hb5 hb3 gh;go_upto_region 18 with (refine eX (Z:=fE) (cs:=es.toArray) 39 (.tmp 11) (.tmp 82) (by rw[nB];exact DT) (by rw[nB];rfl) pV ?_)
    generalize wr.alloc (.cells es.toArray 39)=W5 at *;generalize wr.heap.size=k5 at *;have F9:(prog.info? 39).map (·.size)=some ds.length:=(by rw[fY];exact ql);have hel:(prog.info? 39).map (·.size)=some es.length:=(by rw[show es.length=8 by simpa using nB];exact ql);have c:=fun z:aW W5=>KZ ms[i] z.w es.toArray ds.toArray (by simpa using iE _ _ _ _ AW.o z.below) (by simpa using iE _ _ _ _ AX.o z.below)
    have l7:=fun x:aW W5=>aW.cell F8.o x
    have r1:∀ v,(∃ z:aW W5,v=z.w)→v.rangeAt k5 0 es:=Py;have r2:∀ v,(∃ z:aW W5,v=z.w)→v.rangeAt bb (ob+i*8) ds:=PI;clear nB pV fY hcm f7 f8;refine KT aj aj ?_
    repeat (first|(refine D1 r1 39 (.tmp 11) Q7 hel ?_;simp only[Act.put,nI,oZ,ox])|(refine D1 r2 39 (.tmp 91) Q7 F9 ?_;simp only[Act.put,nI,oZ,ox])|go_big_quiet_step ((go_at_call 32;with_reducible exact aW.made (c _))))
    refine wpQuiet_nil ?_;rintro _ ⟨z,rfl⟩;have gw:=aH ir.o z.below af;have hzz:=CZ.o.keep z.below af;have vW:=Qh gw;have Ga:=Qh hzz;generalize z.w=w3 at *;clear c r1 r2 l7 gw hzz;go_wp2_with fail;go_roundw;case rel=>exact⟨i+1,ae,bL,vW.o,Ga.o⟩
    case measure=>simp[intOf];omega
   ·have aM:=Qh bh;have sR:=xZ;go_wp2_with fail;go_loopw [13] (fun kv wr=>∃ i:Nat,i≤tb.length∧kv=.int .i64 (i:Nat)∧Below w.heap.size w wr∧ai wr w.heap.size #[.bool false,.int .i64 vl,.int .i64 vc,.string ⟨vt.toArray⟩,.int .i64 sl,.int .i64 sc,.slice pa nn pn,.slice pb ms.length pm,.slice pc tb.length pt]) (fun kv _=>tb.length - (intOf kv).toNat)
    case atStart=>exact⟨0,bV _,rfl,aM.o,sR.o⟩
    case round=>
     clear aM sR;obtain⟨i,hi,rfl,bh,po⟩:=hrel;have f7:=po.cell 7 _ rfl;have f8:=po.cell 8 _ rfl;have bE:=Qh bh;have xZ:=Qh po;clear po;by_cases hlt:(i:Int) < tb.length
     ·have a8:i < tb.length:=ae;obtain⟨Wh,os3,e3,hb3,vm,iG,hcm⟩:=F4 (rA.o.keep B3 bh) (Ji.o i a8);cases e3
      obtain⟨E,hE,iG⟩:=iG;obtain rfl:vm=.iface 43 (.agg E):=by simpa using hE
      obtain⟨nB,pV⟩:=aer iG;obtain⟨es,rfl⟩:∃ es:List Value,E=es.toArray:=⟨E.toList,aB⟩
      have iG:su wr tb[i] es:=(by simpa using iG);obtain⟨bb,ob,wy,gh,ds,fY,kW,lX⟩:=ei.at (HT.o.keep jP bh) ah a8;subst wy;have Wi:((1:Int)+(ms.length:Int)+(i:Int)).toNat=1+ms.length+i:=ae;have hix:((1:Int)+(ms.length:Int)+(i:Int)) < (1:Int)+ms.length+tb.length:=ae;have Wj:0≤(1:Int)+(ms.length:Int)+(i:Int):=ae;rw[show 0+1+ms.length+i=1+ms.length+i by omega]at hcm;have hb5:Below wr.heap.size wr (wr.alloc (.cells es.toArray 43)):=(aC _ _).alloc af _;have jm:=ai.new wr es.toArray 43;have ye:=jm.range;have hzb:=xZ.o.alloc (.cells es.toArray 43);have g7:=hzb.cell 8 _ rfl;have yf:=jP _ _ _ _ iG hb5;have yg:=jP _ _ _ _ kW hb5;have yh:(wr.alloc (.cells es.toArray 43)).rangeAt bb (ob+i*6) ds:=fun j v hv=>dx (lX j v hv) hb5
      have ir:=Qh (aH bE.o hb5 af);have CZ:=Qh hzb;have sQ:=Qh ye;have F8:=Qh g7;have AW:=Qh yf;have AX:=Qh yg;have vp:=Qh yh;clear hE iG kW lX jm ye hzb g7 yf yg yh hb5 hb3 gh;go_upto_region 24 with (refine eX (Z:=iD) (cs:=es.toArray) 43 (.tmp 14) (.tmp 116) (by rw[nB];exact FW) (by rw[nB];rfl) pV ?_)
      generalize wr.alloc (.cells es.toArray 43)=W5 at *;generalize wr.heap.size=k5 at *;have F9:(prog.info? 43).map (·.size)=some ds.length:=(by rw[fY];exact rM);have hel:(prog.info? 43).map (·.size)=some es.length:=(by rw[show es.length=6 by simpa using nB];exact rM);have c:=fun z:aW W5=>OE tb[i] z.w es.toArray ds.toArray (by simpa using jP _ _ _ _ AW.o z.below) (by simpa using jP _ _ _ _ AX.o z.below)
      have l7:=fun x:aW W5=>aW.cell F8.o x
      have r1:∀ v,(∃ z:aW W5,v=z.w)→v.rangeAt k5 0 es:=Py;have r2:∀ v,(∃ z:aW W5,v=z.w)→v.rangeAt bb (ob+i*6) ds:=PI;clear nB pV fY hcm f7 f8;refine KT aj aj ?_
      repeat (first|(refine D1 r1 43 (.tmp 14) Q8 hel ?_;simp only[Act.put,nI,oZ,ox])|(refine D1 r2 43 (.tmp 125) Q8 F9 ?_;simp only[Act.put,nI,oZ,ox])|go_big_quiet_step ((go_at_call 57;with_reducible exact aW.made (c _))))
      refine wpQuiet_nil ?_;rintro _ ⟨z,rfl⟩;have gw:=aH ir.o z.below af;have hzz:=CZ.o.keep z.below af;have vW:=Qh gw;have Ga:=Qh hzz;generalize z.w=w3 at *;clear c r1 r2 l7 gw hzz;go_wp2_with fail;go_roundw;case rel=>exact⟨i+1,ae,bL,vW.o,Ga.o⟩
      case measure=>simp[intOf];omega
     ·have aM:=Qh bh;have sR:=xZ;go_wp2_with fail;go_ret;exact⟨rfl,aM.o⟩
 | true=>
  rw[hh]at hn;replace hn:n=2+d.msgs.length+d.tabs.length:=Iu;have MD:(bI d)[1]? = some (.aR d.aR):=(by unfold bI;rw[hh];rfl);obtain⟨bs,os,rfl,BX,vs,F5,hcs⟩:=F4 hs MD;obtain⟨D,hD,F5⟩:=F5;obtain rfl:vs=.iface 29 (.agg D):=by simpa using hD
  clear hD MD;obtain⟨F6,F7,eD,zV⟩:=F5;obtain rfl:D=#[.int .i64 d.aR.line,.int .i64 d.aR.ak,.slice F6 d.aR.names.length F7]:=eA.1 eD;clear eD;have aes:(bI d)[0]? = some (.bG d.bG):=(by unfold bI;rw[hh];rfl);obtain⟨bs2,os2,e2,-,vv,hrv,hcv⟩:=F4 hs aes;cases e2
  obtain rfl:vv=.iface 26 (.agg #[.int .i64 d.bG.line,.int .i64 d.bG.ak,.string ⟨d.bG.text.toArray⟩]):=by have h:[vv]=[.iface 26 (.agg d.bG.cells)]:=hrv;simpa [zQ.cells]using h
  clear hrv aes;rw[q7]at hcv;have FN:=Qh (fun W (hb:Below w.heap.size w W)=>Wf d.aR W #[.int .i64 d.aR.line,.int .i64 d.aR.ak,.slice F6 d.aR.names.length F7] #[.int .i64 d.aR.line,.int .i64 d.aR.ak,.slice pa d.aR.names.length pn] ⟨F6,F7,rfl,zV.keep hb af⟩ ⟨pa,pn,rfl,hN.keep hb af⟩);have eE:=Qh (show ∀ o1 o2 o3,Below w.heap.size w ((((w.alloc o1).alloc o2).alloc o3))from fun o1 o2 o3=>(((aC w.heap.size w).alloc af o1).alloc aB o2).alloc cO o3);have HM:=Qh hM;have HT:=Qh hT;clear hN zV hM hT hs;unfold aS.cells;rw[hh];have ZB:=Qh (fun o2 o3=>ai.alloc (ai.alloc (ai.new w #[.bool true,.int .i64 d.bG.line,.int .i64 d.bG.ak,.string ⟨d.bG.text.toArray⟩,.int .i64 d.aR.line,.int .i64 d.aR.ak,.slice pa d.aR.names.length pn,.slice pb d.msgs.length pm,.slice pc d.tabs.length pt] 33) o2) o3);have Jh:=Qh (Jh.o 1 (by rw[hh];rfl));have Ji:=Qh (Ji.o 1 (by rw[hh];rfl));generalize bI d=l at *;generalize d.msgs=ms at *;generalize d.tabs=tb at *;generalize d.bG.line=vl at *;generalize d.bG.ak=vc at *;generalize d.bG.text=vt at *;generalize d.aR.line=sl at *;generalize d.aR.ak=sc at *;generalize d.aR.names.length=nn at *;subst hn;clear hh;go_enter func24,ntmps24
  have QA:=We.o;go_wp2_with fail;with_reducible refine(FN.o _ (eE.o _ _ _)).mono ?_
  rintro e w2 ⟨rfl,hb⟩;have aM:=Qh (aH (eE.o _ _ _) hb aB);have zb:=(ZB.o _ _).keep hb af;have sR:=Qh zb;clear hb zb ZB eE FN;go_wp2_with fail;go_loopw [10] (fun kv wr=>∃ i:Nat,i≤ms.length∧kv=.int .i64 (i:Nat)∧Below w.heap.size w wr∧ai wr w.heap.size #[.bool true,.int .i64 vl,.int .i64 vc,.string ⟨vt.toArray⟩,.int .i64 sl,.int .i64 sc,.slice pa nn pn,.slice pb ms.length pm,.slice pc tb.length pt]) (fun kv _=>ms.length - (intOf kv).toNat)
  case atStart=>exact⟨0,bV _,rfl,aM.o,sR.o⟩
  case round=>
   clear aM sR;obtain⟨i,hi,rfl,bh,po⟩:=hrel;have f7:=po.cell 7 _ rfl;have f8:=po.cell 8 _ rfl;have bE:=Qh bh;have xZ:=Qh po;clear po;by_cases hlt:(i:Int) < ms.length
   ·have a8:i < ms.length:=ae;obtain⟨Wh,os3,e3,hb3,vm,iG,hcm⟩:=F4 (rA.o.keep B3 bh) (Jh.o i a8);cases e3
    obtain⟨E,hE,iG⟩:=iG;obtain rfl:vm=.iface 39 (.agg E):=by simpa using hE
    obtain⟨nB,pV⟩:=aeq iG;obtain⟨es,rfl⟩:∃ es:List Value,E=es.toArray:=⟨E.toList,aB⟩
    have iG:ru wr ms[i] es:=(by simpa using iG);obtain⟨bb,ob,wy,gh,ds,fY,kW,lX⟩:=ei.at (HM.o.keep iE bh) ah a8;subst wy;have Wi:(2+(i:Int)).toNat=2+i:=ae;have hix:(2+(i:Int)) < (2:Int)+ms.length+tb.length:=ae;have Wj:0≤2+(i:Int):=ae;rw[show 1+1+i=2+i by omega]at hcm;have hb5:Below wr.heap.size wr (wr.alloc (.cells es.toArray 39)):=(aC _ _).alloc af _;have jm:=ai.new wr es.toArray 39;have ye:=jm.range;have hzb:=xZ.o.alloc (.cells es.toArray 39);have g7:=hzb.cell 7 _ rfl;have yf:=iE _ _ _ _ iG hb5;have yg:=iE _ _ _ _ kW hb5;have yh:(wr.alloc (.cells es.toArray 39)).rangeAt bb (ob+i*8) ds:=fun j v hv=>dx (lX j v hv) hb5
    have ir:=Qh (aH bE.o hb5 af);have CZ:=Qh hzb;have sQ:=Qh ye;have F8:=Qh g7;have AW:=Qh yf;have AX:=Qh yg;have vp:=Qh yh;clear hE iG kW lX jm ye hzb g7 yf yg yh hb5 hb3 gh;go_upto_region 18 with (refine eX (Z:=fE) (cs:=es.toArray) 39 (.tmp 11) (.tmp 82) (by rw[nB];exact DT) (by rw[nB];rfl) pV ?_)
    generalize wr.alloc (.cells es.toArray 39)=W5 at *;generalize wr.heap.size=k5 at *;have F9:(prog.info? 39).map (·.size)=some ds.length:=(by rw[fY];exact ql);have hel:(prog.info? 39).map (·.size)=some es.length:=(by rw[show es.length=8 by simpa using nB];exact ql);have c:=fun z:aW W5=>KZ ms[i] z.w es.toArray ds.toArray (by simpa using iE _ _ _ _ AW.o z.below) (by simpa using iE _ _ _ _ AX.o z.below)
    have l7:=fun x:aW W5=>aW.cell F8.o x
    have r1:∀ v,(∃ z:aW W5,v=z.w)→v.rangeAt k5 0 es:=Py;have r2:∀ v,(∃ z:aW W5,v=z.w)→v.rangeAt bb (ob+i*8) ds:=PI;clear nB pV fY hcm f7 f8;refine KT aj aj ?_
    repeat (first|(refine D1 r1 39 (.tmp 11) Q7 hel ?_;simp only[Act.put,nI,oZ,ox])|(refine D1 r2 39 (.tmp 91) Q7 F9 ?_;simp only[Act.put,nI,oZ,ox])|go_big_quiet_step ((go_at_call 32;with_reducible exact aW.made (c _))))
    refine wpQuiet_nil ?_;rintro _ ⟨z,rfl⟩;have gw:=aH ir.o z.below af;have hzz:=CZ.o.keep z.below af;have vW:=Qh gw;have Ga:=Qh hzz;generalize z.w=w3 at *;clear c r1 r2 l7 gw hzz;go_wp2_with fail;go_roundw;case rel=>exact⟨i+1,ae,bL,vW.o,Ga.o⟩
    case measure=>simp[intOf];omega
   ·have aM:=Qh bh;have sR:=xZ;go_wp2_with fail;go_loopw [13] (fun kv wr=>∃ i:Nat,i≤tb.length∧kv=.int .i64 (i:Nat)∧Below w.heap.size w wr∧ai wr w.heap.size #[.bool true,.int .i64 vl,.int .i64 vc,.string ⟨vt.toArray⟩,.int .i64 sl,.int .i64 sc,.slice pa nn pn,.slice pb ms.length pm,.slice pc tb.length pt]) (fun kv _=>tb.length - (intOf kv).toNat)
    case atStart=>exact⟨0,bV _,rfl,aM.o,sR.o⟩
    case round=>
     clear aM sR;obtain⟨i,hi,rfl,bh,po⟩:=hrel;have f7:=po.cell 7 _ rfl;have f8:=po.cell 8 _ rfl;have bE:=Qh bh;have xZ:=Qh po;clear po;by_cases hlt:(i:Int) < tb.length
     ·have a8:i < tb.length:=ae;obtain⟨Wh,os3,e3,hb3,vm,iG,hcm⟩:=F4 (rA.o.keep B3 bh) (Ji.o i a8);cases e3
      obtain⟨E,hE,iG⟩:=iG;obtain rfl:vm=.iface 43 (.agg E):=by simpa using hE
      obtain⟨nB,pV⟩:=aer iG;obtain⟨es,rfl⟩:∃ es:List Value,E=es.toArray:=⟨E.toList,aB⟩
      have iG:su wr tb[i] es:=(by simpa using iG);obtain⟨bb,ob,wy,gh,ds,fY,kW,lX⟩:=ei.at (HT.o.keep jP bh) ah a8;subst wy;have Wi:((2:Int)+(ms.length:Int)+(i:Int)).toNat=2+ms.length+i:=ae;have hix:((2:Int)+(ms.length:Int)+(i:Int)) < (2:Int)+ms.length+tb.length:=ae;have Wj:0≤(2:Int)+(ms.length:Int)+(i:Int):=ae;rw[show 1+1+ms.length+i=2+ms.length+i by omega]at hcm;have hb5:Below wr.heap.size wr (wr.alloc (.cells es.toArray 43)):=(aC _ _).alloc af _;have jm:=ai.new wr es.toArray 43;have ye:=jm.range;have hzb:=xZ.o.alloc (.cells es.toArray 43);have g7:=hzb.cell 8 _ rfl;have yf:=jP _ _ _ _ iG hb5;have yg:=jP _ _ _ _ kW hb5;have yh:(wr.alloc (.cells es.toArray 43)).rangeAt bb (ob+i*6) ds:=fun j v hv=>dx (lX j v hv) hb5
      have ir:=Qh (aH bE.o hb5 af);have CZ:=Qh hzb;have sQ:=Qh ye;have F8:=Qh g7;have AW:=Qh yf;have AX:=Qh yg;have vp:=Qh yh;clear hE iG kW lX jm ye hzb g7 yf yg yh hb5 hb3 gh;go_upto_region 24 with (refine eX (Z:=iD) (cs:=es.toArray) 43 (.tmp 14) (.tmp 116) (by rw[nB];exact FW) (by rw[nB];rfl) pV ?_)
      generalize wr.alloc (.cells es.toArray 43)=W5 at *;generalize wr.heap.size=k5 at *;have F9:(prog.info? 43).map (·.size)=some ds.length:=(by rw[fY];exact rM);have hel:(prog.info? 43).map (·.size)=some es.length:=(by rw[show es.length=6 by simpa using nB];exact rM);have c:=fun z:aW W5=>OE tb[i] z.w es.toArray ds.toArray (by simpa using jP _ _ _ _ AW.o z.below) (by simpa using jP _ _ _ _ AX.o z.below)
      have l7:=fun x:aW W5=>aW.cell F8.o x
      have r1:∀ v,(∃ z:aW W5,v=z.w)→v.rangeAt k5 0 es:=Py;have r2:∀ v,(∃ z:aW W5,v=z.w)→v.rangeAt bb (ob+i*6) ds:=PI;clear nB pV fY hcm f7 f8;refine KT aj aj ?_
      repeat (first|(refine D1 r1 43 (.tmp 14) Q8 hel ?_;simp only[Act.put,nI,oZ,ox])|(refine D1 r2 43 (.tmp 125) Q8 F9 ?_;simp only[Act.put,nI,oZ,ox])|go_big_quiet_step ((go_at_call 57;with_reducible exact aW.made (c _))))
      refine wpQuiet_nil ?_;rintro _ ⟨z,rfl⟩;have gw:=aH ir.o z.below af;have hzz:=CZ.o.keep z.below af;have vW:=Qh gw;have Ga:=Qh hzz;generalize z.w=w3 at *;clear c r1 r2 l7 gw hzz;go_wp2_with fail;go_roundw;case rel=>exact⟨i+1,ae,bL,vW.o,Ga.o⟩
      case measure=>simp[intOf];omega
     ·have aM:=Qh bh;have sR:=xZ;go_wp2_with fail;go_ret;exact⟨rfl,aM.o⟩
end Go.Proofs.YtfflljgnpfldfaaGreatDoor
