/-
  Layer 7: what a database is written as: plain.
-/
import Derived.Test.YtkblpaabknjckaaGreatDoorBaseD
import Derived.Test.YtkblpaabknjckaaGreatDoorPrnK
import Derived.Test.YtkblpaabknjckaaGreatDoorCopC
import Derived.Test.YtkblpaabknjckaaGreatDoorSamA
set_option maxHeartbeats 128000000
set_option linter.unusedVariables false
namespace Go.Proofs.YtkblpaabknjckaaGreatDoor
open Go.Proofs.Tryz
open Go.RowKit Go.Shelf
structure SigOK (d:SigD):Prop where
 br:d.branch < 18446744073709551616
 st:In64 d.start
 sz:In64 d.size
 s1:In64 d.sn
 s2:In64 d.sd
 o1:In64 d.on
 o2:In64 d.od
 m1:In64 d.mn
 m2:In64 d.md
 x1:In64 d.xn
 x2:In64 d.xd
 nm:d.name.length≤100000000
 un:d.unit.length≤100000000
 ro:In64 d.role
def allF (d:SigD):Bool:=fracB d.sn d.sd && (fracB d.on d.od && (fracB d.mn d.md && fracB d.xn d.xd))
def sigB (d:SigD) (rs:List (List UInt8)):Bool:=
 rolB d.role d.branch && (allF d && ((mayN d.unit == 0) && (wordB d.name && (sizB d.start && (sizB d.size && (!rs.isEmpty && rs.all wordB))))))
def sigT (d:SigD) (rs:List (List UInt8)):List UInt8:=
 [83,71,95,32]++(d.name++(rolL d.role d.branch++([32,58,32]++(Lib.itoa d.start++([124]++(Lib.itoa d.size++(ordL d.moto d.signed++([32,40]++(fracT d.sn d.sd++([44]++(fracT d.on d.od++([41,32,91]++(fracT d.mn d.md++([124]++(fracT d.xn d.xd ++
  ([93,32]++(quoL d.unit++([32]++Lib.join rs [44]))))))))))))))))))
def sigV (d:SigD) (rs:List (List UInt8)):Value:=.tuple #[.string ⟨(if sigB d rs then sigT d rs else []).toArray⟩,if sigB d rs then .nilIface else errV 4]
theorem allF_eq (d:SigD):([(d.sn,d.sd),(d.on,d.od),(d.mn,d.md),(d.xn,d.xd)].all fun x=>fracB x.1 x.2)=allF d:=by
 simp[allF,List.all_cons]
theorem strCat (X Y:List UInt8) (hx:X.length≤1000000000) (hy:Y.length≤1000000000) :
  ∃ Z,Z=X++Y∧(⟨X.toArray⟩:ByteArray)++⟨Y.toArray⟩=⟨Z.toArray⟩∧¬ (9223372036854775807 < X.length+Y.length)∧Z.length=X.length+Y.length:=
 ⟨X++Y,rfl,strA X Y,by omega,by simp⟩
theorem join_words (l:List (List UInt8)) (s:List UInt8) (hs:s.length≤1) (h:l.all wordB=true):(Lib.join l s).length≤66*l.length:=by
 have hw:∀ x∈l,x.length≤64:=fun x hx=>by
  have:=List.all_eq_true.1 h x hx;unfold wordB nameB at this;simp at this;omega
 clear h;cases l with
 | nil=>simp[Lib.join_nil]
 | cons x r=>
  rw[Lib.join_cons,List.length_append];have h1:(Lib.joinTail s r).length≤66*r.length:=by
   have h2:∀ x∈r,x.length≤64:=fun y hy=>hw y (List.mem_cons_of_mem _ hy)
   clear hw;unfold Lib.joinTail
   induction r with
   | nil=>simp
   | cons y r ih=>
    have:=ih (fun z hz=>h2 z (List.mem_cons_of_mem _ hz));have:=h2 y (by simp);simp only[List.map_cons,List.flatten_cons,List.length_append,List.length_cons];omega
  have:=hw x (by simp);simp only[List.length_cons];omega
theorem quo7_len (u:List UInt8) (h:(mayN u == 0)=true):(quoL u).length≤10000:=by
 have h0:mayN u=0:=(by simpa using h);have hu:u.length≤1024:=by
  unfold mayN at h0;split at h0
  ·cases h0
  ·omega
 have h1:=escQ_len u;have h2:cqL u≤2*u.length:=by
  unfold cqL;have:=List.count_le_length (a:=(34:UInt8)) (l:=u);have:=List.count_le_length (a:=(92:UInt8)) (l:=u);omega
 simp only[quoL,List.length_append,List.length_cons,List.length_nil];omega
theorem itoa7_len (n:Int) (h:In64 n):(Lib.itoa n).length≤21:=by
 have h1:=h.1;have h2:=h.2;unfold Lib.itoa;split
 ·rw[List.length_cons];have:=dec_len64 (u:=n.natAbs) (by omega);omega
 ·have:=dec_len64 (u:=n.toNat) (by omega);omega
theorem rol7_len (r:Int) (b:Nat) (h:b < 18446744073709551616):(rolL r b).length≤22:=by
 have:=dec_len64 h;unfold rolL;split
 ·simp
 ·split
  ·simp only[List.length_cons];omega
  ·simp
set_option maxRecDepth 100000 in theorem signal_any (d : SigD) (hd : SigOK d) (rs : List (List UInt8)) (hto : rs.length ≤ 4000000) (hw : ∀ x ∈ rs, x.length ≤ 9223372036854775807) (n : Nat) (hn : n = rs.length) (a : Option Addr) (cap : Nat) (w : World) (hs : SlX w a cap rs) (hT : TabsU w) (hp : PowTab w) :
  Calls prog 88 #[d.agg (.slice a n cap)] w fun e w'=>e=.returned (sigV d rs)∧Below w.heap.size w w':=by
 obtain⟨V,hV⟩:∃ V,V=sigV d rs:=⟨_,rfl⟩
 rw[← hV];have cR:=fun W h=>role_any d (.slice a n cap) hd.br W h
 have cO:=fun W=>order_any d (.slice a n cap) W
 have cQ:=fun W h=>quoted_any d.unit (by have:=hd.un;omega) W h
 rw[good_quo]at cQ;have cF:=fun a' W h1 h2=>fractions_any [(d.sn,d.sd),(d.on,d.od),(d.mn,d.md),(d.xn,d.xd)] (by
  intro x hx;simp only[List.mem_cons,List.not_mem_nil,or_false]at hx;rcases hx with rfl|rfl|rfl|rfl
  ·exact⟨hd.s1,hd.s2⟩
  ·exact⟨hd.o1,hd.o2⟩
  ·exact⟨hd.m1,hd.m2⟩
  ·exact⟨hd.x1,hd.x2⟩) 4 rfl (by simp) a' 4 W h1 h2
 rw[allF_eq]at cF;have cW:=fun W=>pword_any d.name (by have:=hd.nm;omega) W
 have cS1:=fun W=>small_any d.start hd.st W
 have cS2:=fun W=>small_any d.size hd.sz W
 have hsb:sigB d rs=(rolB d.role d.branch && (allF d && ((mayN d.unit == 0) && (wordB d.name && (sizB d.start && (sizB d.size && (!rs.isEmpty && rs.all wordB))))))):=rfl;have HVb:=Qh (show sigB d rs=false→V=.tuple #[.string ⟨#[]⟩,errV 4]from fun h=>by rw[hV];unfold sigV;rw[h];rfl);have HVg:=Qh (show sigB d rs=true→V=.tuple #[.string ⟨(sigT d rs).toArray⟩,.nilIface]from fun h=>by rw[hV];unfold sigV;rw[h];rfl);clear hV;generalize sigB d rs=sB at *;have HSB:=Qh hsb;clear hsb;rw[SigD.agg_eq]at *;have e0:=SigD.cells_size d (.slice a n cap);have HC:=Qh (show d.cells (.slice a n cap)=#[.int .i64 d.line,.int .i64 d.col,.string ⟨d.name.toArray⟩,.int .i64 d.role,.int .u64 (d.branch:Nat),.int .i64 d.start,.int .i64 d.size,.bool d.moto,.bool d.signed,.int .i64 d.sn,.int .i64 d.sd,.int .i64 d.on,.int .i64 d.od,.int .i64 d.mn,.int .i64 d.md,.int .i64 d.xn,.int .i64 d.xd,.string ⟨d.unit.toArray⟩,.slice a n cap]from rfl);generalize d.cells (.slice a n cap)=C at *;unfold rolV at cR;generalize rolB d.role d.branch=rB at *;obtain⟨tR,htR⟩:∃ t,t=(if rB=true then rolL d.role d.branch else []):=⟨_,rfl⟩
 rw[← htR]at cR;have HTR:=Qh htR;clear htR;obtain⟨zb,-,hbz⟩:=box1 w C 89;have hu:=underlying89;have ZB:=Qh zb;have HBZ:=Qh hbz;have HP:=Qh hp;have HT:=Qh hT;have HS:=Qh hs;clear hbz hp hT hs;have HFL:=Qh (show allF d=true→(fracT d.sn d.sd).length≤100∧(fracT d.on d.od).length≤100∧(fracT d.mn d.md).length≤100∧(fracT d.xn d.xd).length≤100 from fun h=>by
  unfold allF at h;simp only[Bool.and_eq_true]at h;exact⟨frac7_len _ _ hd.s1 hd.s2 h.1,frac7_len _ _ hd.o1 hd.o2 h.2.1,frac7_len _ _ hd.m1 hd.m2 h.2.2.1,frac7_len _ _ hd.x1 hd.x2 h.2.2.2⟩)
 have HQL:=Qh (show(mayN d.unit == 0)=true→(quoL d.unit).length≤10000 from fun h=>quo7_len d.unit h);have HNL:=Qh (show wordB d.name=true→d.name.length≤64 from fun h=>by unfold wordB nameB at h;simp at h;omega);generalize (mayN d.unit == 0)=qB at *;generalize allF d=fB at *;go_enter func88,ntmps88
 go_wp2_with (refine wpList_loadS zb 89 (.tmp 1) hu (by rw[e0];exact sig_size) ?_)
 with_reducible refine(cR _ (PowTab.keep HP.out HBZ.out)).mono ?_
 rintro e w1 ⟨rfl,hb⟩;have B1:=ZB.out.keep hb lrf;have HB1:=Qh (bstep HBZ.out hb lrf);clear hb cR zb;rw[HC.out]at B1;have f9:=B1.cell 9 _ rfl;have f10:=B1.cell 10 _ rfl;have f11:=B1.cell 11 _ rfl;have f12:=B1.cell 12 _ rfl;have f13:=B1.cell 13 _ rfl;have f14:=B1.cell 14 _ rfl;have f15:=B1.cell 15 _ rfl;have f16:=B1.cell 16 _ rfl;have HB1':=Qh B1;clear B1;go_wp2_with fail;have hlit:=Owns.lit w1 w1.heap.size enRt 2 (fun _=>rfl) [(d.sn,d.sd),(d.on,d.od),(d.mn,d.md),(d.xn,d.xd)] #[.int .i64 d.sn,.int .i64 d.sd,.int .i64 d.on,.int .i64 d.od,.int .i64 d.mn,.int .i64 d.md,.int .i64 d.xn,.int .i64 d.xd] 87 4 rfl rfl (by decide) lrf;obtain⟨-,hsl⟩:=Owns.sl hlit;have hbl:=(HB1.out.alloc HB1.out.size (.cells #[.int .i64 d.sn,.int .i64 d.sd,.int .i64 d.on,.int .i64 d.od,.int .i64 d.mn,.int .i64 d.md,.int .i64 d.xn,.int .i64 d.xd] 87))
 have B2:=HB1'.out.alloc (.cells #[.int .i64 d.sn,.int .i64 d.sd,.int .i64 d.on,.int .i64 d.od,.int .i64 d.mn,.int .i64 d.md,.int .i64 d.xn,.int .i64 d.xd] 87);with_reducible refine(cF _ _ hsl (PowTab.keep HP.out hbl)).mono ?_
 rintro e w2 ⟨hb,v,rfl,hown⟩;replace B2:=B2.keep hb lrf;have HB2:=Qh (bstep hbl hb lrf);have HOW:=Qh (fun h=>(hown h).fromBase (base':=w.heap.size) (Nat.le_trans HB1.out.size (by simp)));clear hown hb hbl hsl hlit cF f9 f10 f11 f12 f13 f14 f15 f16 HB1' HB1;have f17:=B2.cell 17 _ rfl;have HB2':=Qh B2;clear B2;go_wp2_with fail;with_reducible refine(cQ _ (TabsU.keep HT.out HB2.out)).mono ?_
 rintro e w3 ⟨rfl,hb⟩;have B3:=HB2'.out.keep hb lrf;have HB3:=Qh (bstep HB2.out hb lrf);replace HOW:=Qh (fun h=>(HOW.out h).keep hb lrf);clear hb cQ f17 HB2 HB2';have f2:=B3.cell 2 _ rfl;have f5:=B3.cell 5 _ rfl;have f6:=B3.cell 6 _ rfl;have f18:=B3.cell 18 _ rfl;have HB3':=Qh B3;clear B3;cases rB
 ·have HV:=Qh (HVb.out (by rw[HSB.out];rfl));clear HVb HVg HSB;go_wp2_with fail;go_ret2
  exact⟨congrArg Ending.returned HV.out.symm,HB3.out⟩
 cases fB
 ·have HV:=Qh (HVb.out (by rw[HSB.out];rfl));clear HVb HVg HSB;go_wp2_with fail;go_ret2
  exact⟨congrArg Ending.returned HV.out.symm,HB3.out⟩
 cases qB
 ·have HV:=Qh (HVb.out (by rw[HSB.out];rfl));clear HVb HVg HSB;go_wp2_with fail;go_ret2
  exact⟨congrArg Ending.returned HV.out.symm,HB3.out⟩
 generalize wordB d.name=wB at *;generalize sizB d.start=s1B at *;generalize sizB d.size=s2B at *;cases wB
 ·have HV:=Qh (HVb.out (by rw[HSB.out];rfl));clear HVb HVg HSB;go_wp2_with fail;with_reducible refine(cW _).mono ?_
  rintro e w4 ⟨rfl,hb⟩;replace HB3:=Qh (bstep HB3.out hb lrf);clear hb f2 f5 f6 f18;go_wp2_with fail;go_ret2
  exact⟨congrArg Ending.returned HV.out.symm,HB3.out⟩
 go_wp2_with fail;with_reducible refine(cW _).mono ?_
 rintro e w4 ⟨rfl,hb⟩;replace HB3:=Qh (bstep HB3.out hb lrf);replace HOW:=Qh (fun h=>(HOW.out h).keep hb lrf);have B4:=HB3'.out.keep hb lrf;clear hb f2 f5 f6 f18 HB3' cW;have f5:=B4.cell 5 _ rfl;have f6:=B4.cell 6 _ rfl;have f18:=B4.cell 18 _ rfl;have HB4':=Qh B4;clear B4;cases s1B
 ·have HV:=Qh (HVb.out (by rw[HSB.out];rfl));clear HVb HVg HSB;go_wp2_with fail;with_reducible refine(cS1 _).mono ?_
  rintro e w5 ⟨rfl,rfl⟩;go_wp2_with fail;go_ret2
  exact⟨congrArg Ending.returned HV.out.symm,HB3.out⟩
 cases s2B
 ·have HV:=Qh (HVb.out (by rw[HSB.out];rfl));clear HVb HVg HSB;go_wp2_with fail;with_reducible refine(cS1 _).mono ?_
  rintro e w5 ⟨rfl,rfl⟩;go_wp2_with fail;with_reducible refine(cS2 _).mono ?_
  rintro e w5 ⟨rfl,rfl⟩;go_wp2_with fail;go_ret2
  exact⟨congrArg Ending.returned HV.out.symm,HB3.out⟩
 by_cases hne:n=0
 ·have HV:=Qh (HVb.out (by rw[HSB.out,show rs.isEmpty=true by rw[List.isEmpty_iff];exact List.length_eq_zero_iff.1 (by omega)];rfl));clear HVb HVg HSB HS;have hn0:((n:Int) == 0)=true:=(by rw[hne];rfl);clear hn hne;go_wp2_with fail;with_reducible refine(cS1 _).mono ?_
  rintro e w5 ⟨rfl,rfl⟩;go_wp2_with fail;with_reducible refine(cS2 _).mono ?_
  rintro e w5 ⟨rfl,rfl⟩;go_wp2_with fail;go_ret2
  exact⟨congrArg Ending.returned HV.out.symm,HB3.out⟩
 have hn0:((n:Int) == 0)=false:=(by rw[beq_eq_false_iff_ne];omega);have HSB2:=Qh (show sB=rs.all wordB by rw[HSB.out,show rs.isEmpty=false by rw[Bool.eq_false_iff];intro h;rw[List.isEmpty_iff]at h;rw[h]at hn;exact hne hn];rfl);clear HSB hne;have cWs:=fun (k:Nat) (h:k < rs.length) W=>pword_any rs[k] (hw _ (List.getElem_mem h)) W
 clear hw;subst hn;go_wp2_with fail;with_reducible refine(cS1 _).mono ?_
 rintro e w5 ⟨rfl,rfl⟩;go_wp2_with fail;with_reducible refine(cS2 _).mono ?_
 rintro e w5 ⟨rfl,rfl⟩;clear cS1 cS2;go_wp2_with fail;go_loopw [11,74] (fun _ i wr=>∃ k:Nat,k≤rs.length∧i=.int .i64 k∧sB=((rs.drop k).all wordB)∧Below w5.heap.size w5 wr) (fun _ i _=>rs.length - (intOf i).toNat)
 case atStart=>exact⟨0,Nat.zero_le _,rfl,by rw[HSB2.out];rfl,Below.refl _ _⟩
 case round=>
  obtain⟨k,hk,rfl,hsk,hbel⟩:=hrel;have HBW:=Qh (bstep HB3.out hbel lrf);have HBL:=Qh hbel;clear hbel;by_cases hlt:k < rs.length
  ·obtain⟨b,o,rfl,hb,hc0⟩:=SlX.at (HS.out.keep HBW.out lrf) hlt;rw[List.drop_eq_getElem_cons hlt,List.all_cons]at hsk;have cw:=cWs k hlt wr;generalize rs[k]=x at *;have HSK:=Qh hsk;clear hsk hb;generalize wordB x=xb at *;go_wp2_with fail;(with_reducible refine cw.mono ?_);rintro e w6 ⟨rfl,hb⟩;have hb7:=bstep HBL.out hb lrf;have HB8:=Qh (bstep HBW.out hb lrf);clear hb cw hc0;cases xb
   ·have HV:=Qh (HVb.out (by rw[HSK.out];rfl));clear HVb HVg HSB2 HSK;go_wp2_with fail;go_ret2
    exact⟨congrArg Ending.returned HV.out.symm,HB8.out⟩
   ·have HSK2:=Qh (show sB=(rs.drop (k+1)).all wordB by rw[HSK.out];rfl);clear HSK;go_wp2_with fail;go_roundw;case rel=>exact⟨k+1,by omega,by go_num,HSK2.out,hb7⟩
    case measure=>simp[intOf];omega
  ·obtain rfl:k=rs.length:=by omega
   have hsb:sB=true:=(by rw[hsk,List.drop_length];rfl);have HV:=Qh (HVg.out hsb);have hal:rs.all wordB=true:=(by rw[← HSB2.out];exact hsb);have hjl:=join_words rs [44] (by decide) hal;clear hsk hsb HVb HVg HSB2 hal hlt hk;have BW:=HB4'.out.keep HBL.out lrf;have how:=(HOW.out trivial).keep HBL.out lrf;have HRS:=Qh (HS.out.keep HBW.out lrf);have cI1:=fun x:Later wr=>itoaP_any d.start hd.st x.w (PowTab.keep HP.out (bstep HBW.out x.below lrf))
   have cI2:=fun x:Later wr=>itoaP_any d.size hd.sz x.w (PowTab.keep HP.out (bstep HBW.out x.below lrf))
   have cOx:=fun x:Later wr=>cO x.w
   have cJ:=fun x:Later wr=>pjoin_any [44] rs rs.length rfl a cap x.w (HRS.out.keep x.below lrf) (by omega) (by omega)
   have l2:=fun x:Later wr=>Later.cell (BW.cell 2 _ rfl) x
   have l5:=fun x:Later wr=>Later.cell (BW.cell 5 _ rfl) x
   have l6:=fun x:Later wr=>Later.cell (BW.cell 6 _ rfl) x
   have l18:=fun x:Later wr=>Later.cell (BW.cell 18 _ rfl) x
   have LB:=Qh (fun x:Later wr=>(show Blk x.w w.heap.size C by rw[HC.out];exact Later.blk BW x));simp only[List.map_cons,List.map_nil]at how;obtain⟨av,cv,rfl,hsv⟩:=how.shape;obtain⟨bf,of,rfl,hbf,q0⟩:=SlX.at hsv (k:=0) (by simp);obtain⟨_,_,e,_,q1⟩:=SlX.at hsv (k:=1) (by simp);cases e
   obtain⟨_,_,e,_,q2⟩:=SlX.at hsv (k:=2) (by simp);cases e
   obtain⟨_,_,e,_,q3⟩:=SlX.at hsv (k:=3) (by simp);cases e
   simp only[List.getElem_cons_zero,List.getElem_cons_succ]at q0 q1 q2 q3;rw[Nat.add_zero]at q0;have m0:=fun x:Later wr=>Later.cell q0 x
   have m1:=fun x:Later wr=>Later.cell q1 x
   have m2:=fun x:Later wr=>Later.cell q2 x
   have m3:=fun x:Later wr=>Later.cell q3 x
   have hT1:tR=rolL d.role d.branch:=(by rw[HTR.out,if_pos trivial]);have hlR:tR.length≤22:=(by rw[hT1];exact rol7_len _ _ hd.br);obtain⟨hf0,hf1,hf2,hf3⟩:=HFL.out trivial;have hlq:=HQL.out trivial;have hln:=HNL.out trivial;have hli1:=itoa7_len d.start hd.st;have hli2:=itoa7_len d.size hd.sz;have hlo:(ordL d.moto d.signed).length=3:=rfl;unfold sigT at HV;rw[← hT1]at HV;clear hT1 HTR HFL HQL HNL how hsv hbf ZB HBZ HT HS HB3 HB4' HOW;generalize d.name=NM at *;generalize Lib.itoa d.start=I1 at *;generalize Lib.itoa d.size=I2 at *;generalize ordL d.moto d.signed=O at *;generalize fracT d.sn d.sd=F0 at *;generalize fracT d.on d.od=F1 at *;generalize fracT d.mn d.md=F2 at *;generalize fracT d.xn d.xd=F3 at *;generalize quoL d.unit=QU at *;generalize Lib.join rs [44]=JT at *;obtain⟨NR,eNR,aNR,nNR,zNR⟩:=strCat NM tR (by (try simp);try omega) (by (try simp);try omega);have lNR:NR.length≤100:=(by rw[zNR];(try simp);try omega);have ENR:=Qh eNR;clear eNR zNR;obtain⟨A1,eA1,aA1,nA1,zA1⟩:=strCat I1 [124] (by (try simp);try omega) (by (try simp);try omega);have lA1:A1.length≤30:=(by rw[zA1];(try simp);try omega);have EA1:=Qh eA1;clear eA1 zA1;obtain⟨A2,eA2,aA2,nA2,zA2⟩:=strCat A1 I2 (by (try simp);try omega) (by (try simp);try omega);have lA2:A2.length≤60:=(by rw[zA2];(try simp);try omega);have EA2:=Qh eA2;clear eA2 zA2;obtain⟨A3,eA3,aA3,nA3,zA3⟩:=strCat A2 O (by (try simp);try omega) (by (try simp);try omega);have lA3:A3.length≤70:=(by rw[zA3];(try simp);try omega);have EA3:=Qh eA3;clear eA3 zA3;obtain⟨B1,eB1,aB1,nB1,zB1⟩:=strCat [40] F0 (by (try simp);try omega) (by (try simp);try omega);have lB1:B1.length≤110:=(by rw[zB1];(try simp);try omega);have EB1:=Qh eB1;clear eB1 zB1;obtain⟨B2,eB2,aB2,nB2,zB2⟩:=strCat B1 [44] (by (try simp);try omega) (by (try simp);try omega);have lB2:B2.length≤120:=(by rw[zB2];(try simp);try omega);have EB2:=Qh eB2;clear eB2 zB2;obtain⟨B3,eB3,aB3,nB3,zB3⟩:=strCat B2 F1 (by (try simp);try omega) (by (try simp);try omega);have lB3:B3.length≤230:=(by rw[zB3];(try simp);try omega);have EB3:=Qh eB3;clear eB3 zB3;obtain⟨B4,eB4,aB4,nB4,zB4⟩:=strCat B3 [41] (by (try simp);try omega) (by (try simp);try omega);have lB4:B4.length≤240:=(by rw[zB4];(try simp);try omega);have EB4:=Qh eB4;clear eB4 zB4;obtain⟨C1,eC1,aC1,nC1,zC1⟩:=strCat [91] F2 (by (try simp);try omega) (by (try simp);try omega);have lC1:C1.length≤110:=(by rw[zC1];(try simp);try omega);have EC1:=Qh eC1;clear eC1 zC1;obtain⟨C2,eC2,aC2,nC2,zC2⟩:=strCat C1 [124] (by (try simp);try omega) (by (try simp);try omega);have lC2:C2.length≤120:=(by rw[zC2];(try simp);try omega);have EC2:=Qh eC2;clear eC2 zC2;obtain⟨C3,eC3,aC3,nC3,zC3⟩:=strCat C2 F3 (by (try simp);try omega) (by (try simp);try omega);have lC3:C3.length≤230:=(by rw[zC3];(try simp);try omega);have EC3:=Qh eC3;clear eC3 zC3;obtain⟨C4,eC4,aC4,nC4,zC4⟩:=strCat C3 [93] (by (try simp);try omega) (by (try simp);try omega);have lC4:C4.length≤240:=(by rw[zC4];(try simp);try omega);have EC4:=Qh eC4;clear eC4 zC4;simp only[List.length_cons,List.length_nil,Nat.reduceAdd]at nA1 nB1 nB2 nB4 nC1 nC2 nC4
   go_wp2_with fail;refine wp_region_later 39 (by kernel_rfl) (by kernel_rfl) ?_;simp only[List.take_succ_cons,List.take_zero,List.drop_succ_cons,List.drop_zero]
   repeat (first|(refine wpQuiet_loadS (k:=w.heap.size) (cs:=C) (fun W hx=>by obtain⟨x,rfl⟩:=hx;exact LB.out x) 89 (.tmp 1) hu (by rw[e0];exact sig_size) ?_;simp only[Act.put,List.setIfInBounds_toArray,List.set_cons_zero,List.set_cons_succ])|go_big_quiet_step ((first|(go_at_call 87;with_reducible exact Later.made (cI1 _))|(go_at_call 87;with_reducible exact Later.made (cI2 _))|(go_at_call 117;with_reducible exact Later.made (cOx _))|(go_at_call 24;with_reducible exact Later.made (cJ _)))))
   refine wpQuiet_nil ?_;rintro _ ⟨x,rfl⟩;have HB9:=Qh (bstep HBW.out x.below lrf);clear cI1 cI2 cOx cJ l2 l5 l6 l18 LB m0 m1 m2 m3 q0 q1 q2 q3;generalize x.w=w9 at *;obtain⟨TX,hTX⟩:∃ TX,TX=[83,71,95,32]++(NM++(tR++([32,58,32]++(I1++([124]++(I2++(O++([32,40]++(F0++([44]++(F1++([41,32,91]++(F2++([124]++(F3++([93,32]++(QU++([32]++JT)))))))))))))))))):=⟨_,rfl⟩
   rw[← hTX]at HV;have hJ:Lib.join [[83,71,95],NR,[58],A3,B4,C4,QU,JT] [32]=TX:=by
    rw[hTX,ENR.out,EA3.out,EA2.out,EA1.out,EB4.out,EB3.out,EB2.out,EB1.out,EC4.out,EC3.out,EC2.out,EC1.out];simp only[Lib.join_cons,Lib.joinTail,List.map_cons,List.map_nil,List.flatten_cons,List.flatten_nil,List.append_assoc,List.cons_append,List.nil_append,List.append_nil]
   have hJL:(Lib.join [[83,71,95],NR,[58],A3,B4,C4,QU,JT] [32]).length≤1000000000:=by
    simp only[Lib.join_cons,Lib.joinTail,List.map_cons,List.map_nil,List.flatten_cons,List.flatten_nil,List.length_append,List.length_cons,List.length_nil];omega
   have hlt8:=Owns.lit w9 w9.heap.size enTx 1 (fun _=>rfl) [[83,71,95],NR,[58],A3,B4,C4,QU,JT] #[.string ⟨#[83,71,95]⟩,.string ⟨NR.toArray⟩,.string ⟨#[58]⟩,.string ⟨A3.toArray⟩,.string ⟨B4.toArray⟩,.string ⟨C4.toArray⟩,.string ⟨QU.toArray⟩,.string ⟨JT.toArray⟩] 9 8 rfl rfl (by decide) lrf;obtain⟨-,hs8⟩:=Owns.sl hlt8;have cK:=pjoin_any [32] [[83,71,95],NR,[58],A3,B4,C4,QU,JT] 8 rfl _ 8 _ hs8 hJL (by simp);rw[hJ]at cK;have hbl9:=HB9.out.alloc HB9.out.size (.cells #[.string ⟨#[83,71,95]⟩,.string ⟨NR.toArray⟩,.string ⟨#[58]⟩,.string ⟨A3.toArray⟩,.string ⟨B4.toArray⟩,.string ⟨C4.toArray⟩,.string ⟨QU.toArray⟩,.string ⟨JT.toArray⟩] 9);have HBL9:=Qh hbl9;clear hlt8 hs8 hJL hJ hTX hbl9 ENR EA3 EA2 EA1 EB4 EB3 EB2 EB1 EC4 EC3 EC2 EC1 aNR aA1 aA2 aA3 aB1 aB2 aB3 aB4 aC1 aC2 aC3 aC4 nNR nA1 nA2 nA3 nB1 nB2 nB3 nB4 nC1 nC2 nC3 nC4;go_wp2_with fail;(with_reducible refine cK.mono ?_);rintro e w10 ⟨rfl,hb⟩;have HB10:=Qh (bstep HBL9.out hb lrf);clear hb cK;go_wp2_with fail;go_ret2
   exact⟨congrArg Ending.returned HV.out.symm,HB10.out⟩
def numB (id:Nat):Bool:=decide (id < 2147483648)
def numT (id:Nat) (wide:Bool):List UInt8:=Lib.decDigits (if wide then id+2147483648 else id)
def sxB (s:SigX):Bool:=sigB s.d s.rs
def sxT (s:SigX):List UInt8:=sigT s.d s.rs
def msgB (m:MsgD):Bool:=numB m.id && (wordB m.name && (wordB m.sender && (sizB m.size && (decide (m.sigs.length≤64) && m.sigs.all sxB))))
def msgH (m:MsgD):List UInt8:=[66,79,95,32]++(numT m.id m.wide++([32]++(m.name++([58,32]++(Lib.itoa m.size++([32]++m.sender))))))
def msgL (m:MsgD):List (List UInt8):=[]::msgH m::m.sigs.map fun s=>32::sxT s
def rowB (r:Int×List UInt8):Bool:=mayN r.2 == 0
def rowT (r:Int×List UInt8):List UInt8:=32::(Lib.itoa r.1++32::quoL r.2)
def tabB (t:TabD):Bool:=numB t.id && (wordB t.sig && (decide (t.rows.length≤256) && t.rows.all rowB))
def tabT (t:TabD):List UInt8:=[86,65,76,95,32]++(numT t.id t.wide++([32]++(t.sig++(t.rows.flatMap rowT++[32,59]))))
def verB (v:VerD):Bool:=mayN v.text == 0
def verT (v:VerD):List UInt8:=[86,69,82,83,73,79,78,32]++quoL v.text
def staB (s:StaD):Bool:=s.names.all wordB
def staT (s:StaD):List UInt8:=[66,85,95,58]++s.names.flatMap fun x=>32::x
def partB (n:Nat):NodeD→Bool
 | .ver v=>verB v
 | .sta s=>staB s
 | .msg m=>msgB m && decide (n+1≤512)
 | .tab t=>tabB t
def partL (b:Bool):NodeD→List (List UInt8)
 | .ver v=>[verT v]
 | .sta s=>[staT s]
 | .msg m=>msgL m
 | .tab t=>if b then [tabT t] else [[],tabT t]
def isMsg:NodeD→Bool
 | .msg _=>true
 | _=>false
def isTab:NodeD→Bool
 | .tab _=>true
 | _=>false
def filB:Nat→List NodeD→Bool
 | _,[]=>true
 | n,x::l=>partB n x && filB (if isMsg x then n+1 else n) l
def filL:Bool→List NodeD→List (List UInt8)
 | _,[]=>[]
 | b,x::l=>partL b x++filL (b || isTab x) l
def linesT (l:List (List UInt8)):List UInt8:=l.flatMap fun x=>x++[10]
def dbB (d:DbD):Bool:=(!d.has || verB d.ver) && (staB d.sta && (decide (d.msgs.length≤512) && (d.msgs.all msgB && d.tabs.all tabB)))
def dbHead (d:DbD):List UInt8:=(if d.has then verT d.ver++[10] else [])++(staT d.sta++[10])
def dbT (d:DbD):List UInt8:=dbHead d++(d.msgs.flatMap (fun m=>linesT (msgL m))++((if d.tabs.isEmpty then [] else [10])++d.tabs.flatMap fun t=>tabT t++[10]))
def nodL (d:DbD):List NodeD:=(if d.has then [.ver d.ver] else [])++(.sta d.sta::(d.msgs.map .msg++d.tabs.map .tab))
theorem linesT_app (a b:List (List UInt8)):linesT (a++b)=linesT a++linesT b:=by unfold linesT;rw[List.flatMap_append]
theorem tail_lines:∀ r:List (List UInt8),Lib.joinTail [10] r++[10]=[10]++linesT r
 | []=>rfl
 | y::r=>by
  show([10]++y++Lib.joinTail [10] r)++[10]=[10]++((y++[10])++linesT r);rw[List.append_assoc,tail_lines r];simp
theorem linesT_join:∀ (l:List (List UInt8)),l≠[]→Lib.join l [10]++[10]=linesT l
 | [],h=>absurd rfl h
 | x::r,_=>by
  rw[Lib.join_cons,List.append_assoc,tail_lines];show _=(x++[10])++linesT r;rw[List.append_assoc]
theorem filB_tabs (n:Nat):∀ l:List TabD,filB n (l.map .tab)=l.all tabB
 | []=>rfl
 | t::l=>by
  show(tabB t && filB n (l.map .tab))=_;rw[filB_tabs n l,List.all_cons]
theorem filB_msgs:∀ (l:List MsgD) (n:Nat) (r:List TabD),filB n (l.map .msg++r.map .tab)=(decide (l=[]∨n+l.length≤512) && (l.all msgB && r.all tabB))
 | [],n,r=>by simp[filB_tabs]
 | m::l,n,r=>by
  show((msgB m && decide (n+1≤512)) && filB (n+1) (l.map .msg++r.map .tab))=_;rw[filB_msgs l (n+1) r,List.all_cons];generalize msgB m=a;generalize l.all msgB=b;generalize r.all tabB=c;have h:(decide (n+1≤512) && decide (l=[]∨n+1+l.length≤512))=decide (m::l=[]∨n+(m::l).length≤512):=by
   rw[Bool.eq_iff_iff,Bool.and_eq_true];simp only[decide_eq_true_eq,List.length_cons,reduceCtorEq,false_or];cases l with
   | nil=>simp
   | cons y l=>simp only[reduceCtorEq,false_or,List.length_cons];omega
  rw[← h];cases a<;>cases b<;>cases c<;>cases decide (n+1≤512)<;>simp
theorem filB_nod (d:DbD):filB 0 (nodL d)=dbB d:=by
 have h:filB 0 (.sta d.sta::(d.msgs.map .msg++d.tabs.map .tab))=(staB d.sta && (decide (d.msgs.length≤512) && (d.msgs.all msgB && d.tabs.all tabB))):=by
  show(staB d.sta && filB 0 (d.msgs.map .msg++d.tabs.map .tab))=_;rw[filB_msgs]
  congr 2
  rw[Bool.eq_iff_iff,decide_eq_true_eq,decide_eq_true_eq];constructor
  ·rintro (h|h)
   ·rw[h];simp
   ·omega
  ·intro h;exact .inr (by omega)
 unfold nodL dbB;cases d.has
 ·exact h
 ·show(verB d.ver && filB 0 (.sta d.sta::(d.msgs.map .msg++d.tabs.map .tab)))=_;rw[h];rfl
theorem filL_tabs:∀ (l:List TabD),linesT (filL true (l.map .tab))=l.flatMap fun t=>tabT t++[10]
 | []=>rfl
 | t::l=>by
  show linesT ([tabT t]++filL true (l.map .tab))=_;rw[linesT_app,filL_tabs l];simp[linesT]
theorem filL_tabs0 (l:List TabD):linesT (filL false (l.map .tab))=(if l.isEmpty then [] else [10])++l.flatMap fun t=>tabT t++[10]:=by
 cases l with
 | nil=>rfl
 | cons t l=>
  show linesT ([[],tabT t]++filL true (l.map .tab))=_;rw[linesT_app,filL_tabs l];simp[linesT]
theorem filL_msgs (r:List TabD):∀ (l:List MsgD),linesT (filL false (l.map .msg++r.map .tab))=l.flatMap (fun m=>linesT (msgL m))++((if r.isEmpty then [] else [10])++r.flatMap fun t=>tabT t++[10])
 | []=>by simpa using filL_tabs0 r
 | m::l=>by
  show linesT (msgL m++filL false (l.map .msg++r.map .tab))=_;rw[linesT_app,filL_msgs r l,List.flatMap_cons,List.append_assoc]
theorem filL_nod (d:DbD):linesT (filL false (nodL d))=dbT d:=by
 have h:linesT (filL false (.sta d.sta::(d.msgs.map .msg++d.tabs.map .tab)))=(staT d.sta++[10])++(d.msgs.flatMap (fun m=>linesT (msgL m))++((if d.tabs.isEmpty then [] else [10])++d.tabs.flatMap fun t=>tabT t++[10])):=by
  show linesT ([staT d.sta]++filL false (d.msgs.map .msg++d.tabs.map .tab))=_;rw[linesT_app,filL_msgs];simp[linesT]
 unfold nodL dbT dbHead;cases d.has
 ·rw[show(if false=true then [NodeD.ver d.ver] else [])=[]from rfl,List.nil_append,h];simp
 ·show linesT ([verT d.ver]++filL false (.sta d.sta::(d.msgs.map .msg++d.tabs.map .tab)))=_;rw[linesT_app,h];simp[linesT]
end Go.Proofs.YtkblpaabknjckaaGreatDoor
