/-
  Layer 7: print.table: contract; print.join at long texts.
-/
import Derived.Test.YtkblpaabknjckaaGreatDoorBaseD
import Derived.Test.YtkblpaabknjckaaGreatDoorMorP
set_option maxHeartbeats 128000000
set_option linter.unusedVariables false
namespace Go.Proofs.YtkblpaabknjckaaGreatDoor
open Go.Proofs.Tryz
open Go.RowKit Go.Shelf
set_option maxRecDepth 100000 in theorem pmessage_any (x : MsgD) (hx : MsgOK x) (w : World) (cs : Array Value) (hrd : rdMsg w x cs.toList) (hT : TabsU w) (hp : PowTab w) :
  Calls prog 53 #[.agg cs] w fun e w'=>Below w.heap.size w w'∧∃ v,e=.returned (.tuple #[v,.bool (msgB x)])∧(msgB x=true→Owns w' w.heap.size 9 1 enTx v (msgL x))∧(msgB x=false→v=.slice none 0 0):=by
 obtain⟨a,cap,ecs,hs⟩:=hrd;obtain rfl:cs=x.cells (.slice a x.sigs.length cap):=Array.toList_inj.1 ecs;clear ecs;obtain⟨T,hT'⟩:∃ T,T=msgB x:=⟨_,rfl⟩
 rw[← hT'];unfold msgB at hT';have cN:=fun W h=>pnumber_any x.id hx.id x.wide W h
 have cW1:=fun W=>pword_any x.name (by have:=hx.nm;omega) W
 have cW2:=fun W=>pword_any x.sender (by have:=hx.sn;omega) W
 have cS:=fun W=>small_any x.size hx.sz W
 have cI:=fun W h=>itoaP_any x.size hx.sz W h
 have cG:=fun (y:SigX) (hy:y∈x.sigs) (n:Nat) (hn:n=y.rs.length) a' cap' W (hW:SlX W a' cap' y.rs) h1 h2=>signal_any y.d (hx.sg y hy).d y.rs (hx.sg y hy).n (hx.sg y hy).w n hn a' cap' W hW h1 h2
 have HXS:=Qh hx.sg;have HWL1:=Qh (word_len (s:=x.name));have HWL2:=Qh (word_len (s:=x.sender));have HNL:=Qh (numT_len x.id x.wide);have HIL:=Qh (itoa7_len x.size hx.sz);have e0:=MsgD.cells_size x (.slice a x.sigs.length cap);have HC:=Qh (show x.cells (.slice a x.sigs.length cap)=#[.int .i64 x.line,.int .i64 x.col,.int .u32 (x.id:Nat),.bool x.wide,.string ⟨x.name.toArray⟩,.int .i64 x.size,.string ⟨x.sender.toArray⟩,.slice a x.sigs.length cap]from rfl);generalize x.cells (.slice a x.sigs.length cap)=C at *;have g2:∀ h,C[2]'h=.int .u32 (x.id:Nat):=(by rw[HC.out];exact fun _=>rfl);have g3:∀ h,C[3]'h=.bool x.wide:=(by rw[HC.out];exact fun _=>rfl);obtain⟨zb,-,hbz⟩:=box1 w C 72;have HBZ:=Qh hbz;have ZB:=Qh zb;have HS:=Qh hs;have HT:=Qh hT';have HTU:=Qh (fun W (h:Below w.heap.size w W)=>TabsU.keep hT h);have HPT:=Qh (fun W (h:Below w.heap.size w W)=>PowTab.keep hp h);have hpz:=HPT.out _ hbz;clear hbz zb hs hT' hx hT hp;unfold numV at cN;obtain⟨tN,htN⟩:∃ t,t=(if numB x.id=true then numT x.id x.wide else []):=⟨_,rfl⟩
 rw[← htN]at cN;have HTN:=Qh htN;clear htN;generalize numB x.id=nB at *;generalize wordB x.name=w1B at *;generalize wordB x.sender=w2B at *;generalize sizB x.size=sB at *;go_enter func53,ntmps53
 go_wp2_with fail;with_reducible refine(cN _ hpz).mono ?_
 rintro e w1 ⟨rfl,hb⟩;have B1:=ZB.out.keep hb lrf;rw[HC.out]at B1;have HB1:=Qh (bstep HBZ.out hb lrf);clear hb cN g2 g3 hpz;have f4:=B1.cell 4 _ rfl;have f5:=B1.cell 5 _ rfl;have f6:=B1.cell 6 _ rfl;have f7:=B1.cell 7 _ rfl;have HB1':=Qh B1;clear B1;cases nB
 ·have HV:=Qh (show T=false by rw[HT.out];rfl);go_wp2_with fail;go_ret2
  exact⟨HB1.out,_,congrArg (fun z=>Ending.returned (.tuple #[.slice none 0 0,.bool z])) HV.out.symm,⟨(fun h=>by rw[HV.out]at h;cases h),fun _=>rfl⟩⟩
 go_wp2_with fail;with_reducible refine(cW1 _).mono ?_
 rintro e w2 ⟨rfl,hb⟩;have B2:=HB1'.out.keep hb lrf;have HB2:=Qh (bstep HB1.out hb lrf);clear hb f4 f5 f6 f7 cW1;have f4:=B2.cell 4 _ rfl;have f5:=B2.cell 5 _ rfl;have f6:=B2.cell 6 _ rfl;have f7:=B2.cell 7 _ rfl;have HB2':=Qh B2;clear B2;cases w1B
 ·have HV:=Qh (show T=false by rw[HT.out];rfl);go_wp2_with fail;go_ret2
  exact⟨HB2.out,_,congrArg (fun z=>Ending.returned (.tuple #[.slice none 0 0,.bool z])) HV.out.symm,⟨(fun h=>by rw[HV.out]at h;cases h),fun _=>rfl⟩⟩
 go_wp2_with fail;with_reducible refine(cW2 _).mono ?_
 rintro e w3 ⟨rfl,hb⟩;have B2:=HB2'.out.keep hb lrf;have HB3:=Qh (bstep HB2.out hb lrf);clear hb f4 f5 f6 f7 cW2;have f4:=B2.cell 4 _ rfl;have f5:=B2.cell 5 _ rfl;have f6:=B2.cell 6 _ rfl;have f7:=B2.cell 7 _ rfl;have HB3':=Qh B2;clear B2;cases w2B
 ·have HV:=Qh (show T=false by rw[HT.out];rfl);go_wp2_with fail;go_ret2
  exact⟨HB3.out,_,congrArg (fun z=>Ending.returned (.tuple #[.slice none 0 0,.bool z])) HV.out.symm,⟨(fun h=>by rw[HV.out]at h;cases h),fun _=>rfl⟩⟩
 go_wp2_with fail;with_reducible refine(cS _).mono ?_
 rintro e w4 ⟨rfl,hw4⟩;subst hw4;cases sB
 ·have HV:=Qh (show T=false by rw[HT.out];rfl);go_wp2_with fail;go_ret2
  exact⟨HB3.out,_,congrArg (fun z=>Ending.returned (.tuple #[.slice none 0 0,.bool z])) HV.out.symm,⟨(fun h=>by rw[HV.out]at h;cases h),fun _=>rfl⟩⟩
 by_cases hl:(64:Int) < x.sigs.length
 ·have HV:=Qh (show T=false by rw[HT.out,decide_eq_false (show ¬ x.sigs.length≤64 by omega)];rfl);go_wp2_with fail;go_ret2
  exact⟨HB3.out,_,congrArg (fun z=>Ending.returned (.tuple #[.slice none 0 0,.bool z])) HV.out.symm,⟨(fun h=>by rw[HV.out]at h;cases h),fun _=>rfl⟩⟩
 have HT2:=Qh (show T=x.sigs.all sxB by rw[HT.out,decide_eq_true (show x.sigs.length≤64 by omega)];rfl);clear HT;have htN:tN=numT x.id x.wide:=(by rw[HTN.out];simp);have hln:tN.length≤20:=(by rw[htN];exact HNL.out (by first|exact trivial|rfl));have hl1:=HWL1.out (by first|exact trivial|rfl);have hl2:=HWL2.out (by first|exact trivial|rfl);have hli:=HIL.out;have cIx:=fun y:Later w4=>cI y.w (HPT.out _ (bstep HB3.out y.below lrf))
 have l4:=fun y:Later w4=>Later.cell f4 y
 have l5:=fun y:Later w4=>Later.cell f5 y
 have l6:=fun y:Later w4=>Later.cell f6 y
 have HMH:=Qh (show msgL x=[[],[66,79,95,32]++(tN++([32]++(x.name++([58,32]++(Lib.itoa x.size++([32]++x.sender))))))]++x.sigs.map fun s=>32::sxT s by rw[htN];rfl);clear htN HTN HNL HWL1 HWL2 HIL cI f4 f5 f6;generalize x.name=NM at *;generalize x.sender=SN at *;generalize Lib.itoa x.size=I1 at *;obtain⟨P0,eP0,aP0,nP0,zP0⟩:=strCat NM [58] (by omega) (by (try simp));have lP0:P0.length≤70:=(by rw[zP0];(try simp);omega);have EP0:=Qh eP0;clear eP0 zP0;simp only[List.length_cons,List.length_nil,Nat.reduceAdd]at nP0;obtain⟨H1,hH1⟩:∃ H,H=[66,79,95,32]++(tN++([32]++(NM++([58,32]++(I1++([32]++SN)))))):=⟨_,rfl⟩
 rw[← hH1]at HMH;have hJ:Lib.join [[66,79,95],tN,P0,I1,SN] [32]=H1:=by
  rw[hH1,EP0.out];simp only[Lib.join_cons,Lib.joinTail,List.map_cons,List.map_nil,List.flatten_cons,List.flatten_nil,List.append_assoc,List.cons_append,List.nil_append,List.append_nil]
 have hJL:(Lib.join [[66,79,95],tN,P0,I1,SN] [32]).length≤1000000000:=by
  simp only[Lib.join_cons,Lib.joinTail,List.map_cons,List.map_nil,List.flatten_cons,List.flatten_nil,List.length_append,List.length_cons,List.length_nil];omega
 go_wp2_with fail;refine wp_region_later 9 (by kernel_rfl) (by kernel_rfl) ?_;simp only[List.take_succ_cons,List.take_zero,List.drop_succ_cons,List.drop_zero]
 repeat (go_big_quiet_step ((go_at_call 87;with_reducible exact Later.made (cIx _))))
 refine wpQuiet_nil ?_;rintro _ ⟨y,rfl⟩;have hby:=y.below;clear cIx l4 l5 l6;generalize y.w=w5 at *;have hlt5:=Owns.lit w5 w5.heap.size enTx 1 (fun _=>rfl) [[66,79,95],tN,P0,I1,SN] #[.string ⟨#[66,79,95]⟩,.string ⟨tN.toArray⟩,.string ⟨P0.toArray⟩,.string ⟨I1.toArray⟩,.string ⟨SN.toArray⟩] 9 5 rfl rfl (by decide) lrf;obtain⟨-,hs5⟩:=Owns.sl hlt5;have cK:=pjoin_any [32] [[66,79,95],tN,P0,I1,SN] 5 rfl _ 5 _ hs5 hJL (by simp);rw[hJ]at cK;have HBL:=Qh (hby.alloc hby.size (.cells #[.string ⟨#[66,79,95]⟩,.string ⟨tN.toArray⟩,.string ⟨P0.toArray⟩,.string ⟨I1.toArray⟩,.string ⟨SN.toArray⟩] 9));clear hlt5 hs5 hJL hJ hH1 hby EP0 aP0 nP0;go_wp2_with fail;(with_reducible refine cK.mono ?_);rintro e w10 ⟨rfl,hb⟩;have HB10:=Qh (bstep HBL.out hb lrf);have hlt2:=Owns.lit w10 w4.heap.size enTx 1 (fun _=>rfl) [[],H1] #[.string ⟨#[]⟩,.string ⟨H1.toArray⟩] 9 2 rfl rfl (by decide) HB10.out.size;have HL2:=Qh hlt2;have HB11:=Qh (HB10.out.alloc HB10.out.size (.cells #[.string ⟨#[]⟩,.string ⟨H1.toArray⟩] 9));clear hb cK hlt2;have B11:=HB3'.out.keep HB11.out lrf;have f7b:=B11.cell 7 _ rfl;clear B11;go_wp2_with fail;go_loopw [6,60] (fun v i wr=>∃ k:Nat,k≤x.sigs.length∧i=.int .i64 (k:Nat)∧T=((x.sigs.drop k).all sxB)∧Below w4.heap.size w4 wr∧Owns wr w4.heap.size 9 1 enTx v ([[],H1]++(x.sigs.take k).map fun s=>32::sxT s)) (fun _ i _=>x.sigs.length - (intOf i).toNat)
 case atStart=>exact⟨0,Nat.zero_le _,rfl,by rw[HT2.out];rfl,HB11.out,by simpa using HL2.out⟩
 case round=>
  clear HL2 HB11 HB10 f7b;obtain⟨k,hk,rfl,hsk,hbel,hown⟩:=hrel;have HBW:=Qh (bstep HB3.out hbel lrf);by_cases hlt:(k:Int) < x.sigs.length
  ·have hlt':k < x.sigs.length:=(by omega);obtain⟨b,o,rfl,hb,ds,hcl,hrd,hrg⟩:=SlRd.at (HS.out.keep last_rdSig HBW.out) (by decide) hlt';have hmem:=List.getElem_mem hlt';have hok:=HXS.out _ hmem;have HLN:=Qh (show [[],H1]++(x.sigs.take (k+1)).map (fun s=>32::sxT s)=([[],H1]++(x.sigs.take k).map fun s=>32::sxT s)++[32::sxT x.sigs[k]]by
    rw[List.take_succ_eq_append_getElem hlt',List.map_append,List.map_cons,List.map_nil];simp only[List.append_assoc])
   have hPl:([[],H1]++(x.sigs.take k).map fun s=>32::sxT s).length≤100:=(by simp;omega);rw[List.drop_eq_getElem_cons hlt',List.all_cons]at hsk;have cg:=cG x.sigs[k] hmem;have hsxl:=sigT_len x.sigs[k] hok;have hd1:ds.toArray.size=19:=(by simpa using hcl);have hd2:ds.toArray.all (·.oneCell')=true:=by
    obtain⟨a',cap',e,-⟩:=hrd;rw[e]
    simpa using SigD.cells_one x.sigs[k].d a' x.sigs[k].rs.length cap'
   obtain⟨nb,-,hbn⟩:=box1 wr ds.toArray 89;have HNB:=Qh hbn;generalize hP:[[],H1]++(x.sigs.take k).map (fun s=>32::sxT s)=PP at *;generalize x.sigs[k]=y at *;obtain⟨a',cap',ecs,hsy⟩:=hrd;have cg1:=cg _ rfl a' cap' _ (hsy.keep hbn lrf) (HTU.out _ (bstep HBW.out hbn lrf)) (HPT.out _ (bstep HBW.out hbn lrf));rw[SigD.agg_eq]at cg1;have hED:y.d.cells (.slice a' y.rs.length cap')=ds.toArray:=(by rw[ecs]);rw[hED]at cg1;have hsz:(prog.info? 89).map (·.size)=some ds.length:=(by rw[hcl];exact sig_size);have hu:=underlying89;have hyn:=hok.n;unfold sigV at cg1;rw[show sigB y.d y.rs=sxB y from rfl,show sigT y.d y.rs=sxT y from rfl]at cg1;have HSX:=Qh hsxl;have HSK:=Qh hsk;have hbel2:=bstep hbel hbn lrf;have hown2:=hown.keep hbn lrf;clear hsxl hsk cg hsy hok hmem hP ecs hED hbel hown hbn;generalize sxB y=yb at *;cases yb
   ·have HV:=Qh (show T=false by rw[HSK.out];rfl);simp only[Bool.false_eq_true,if_false]at cg1;unfold errV at cg1;go_wp2_with (first|(refine wpList_load_mid rfl 89 (.tmp 62) rfl b (o+k*19) rfl ds _ hrg hu rfl hsz ?_)|(refine wpList_newS (Z:=zeroSig) (cs:=ds.toArray) 89 (.tmp 8) (.tmp 63) (by rw[hd1];exact sig_zero) (by rw[hd1];rfl) hd2 ?_)|(refine wpList_loadS nb 89 (.tmp 8) hu (by rw[hd1];exact sig_size) ?_))
    (with_reducible refine cg1.mono ?_);rintro e w6 ⟨rfl,hb6⟩;have HB7:=Qh (bstep HB3.out (bstep hbel2 hb6 lrf) lrf);clear cg1 nb hrg hb6 hbel2 hown2;go_wp2_with fail;go_ret2
    exact⟨HB7.out,_,congrArg (fun z=>Ending.returned (.tuple #[.slice none 0 0,.bool z])) HV.out.symm,⟨(fun h=>by rw[HV.out]at h;cases h),fun _=>rfl⟩⟩
   ·have HSK2:=Qh (show T=(x.sigs.drop (k+1)).all sxB by rw[HSK.out];rfl);have hlS:=HSX.out rfl;simp only[if_true]at cg1;generalize sxT y=tS at *;obtain⟨Q0,eQ0,aQ0,nQ0,zQ0⟩:=strCat [32] tS (by (try simp)) (by omega);have HQ:=Qh (show 32::tS=Q0 by rw[eQ0];rfl);clear eQ0 zQ0 HSK HSX;simp only[List.length_cons,List.length_nil,Nat.reduceAdd]at nQ0;go_wp2_with (first|(refine wpList_load_mid rfl 89 (.tmp 62) rfl b (o+k*19) rfl ds _ hrg hu rfl hsz ?_)|(refine wpList_newS (Z:=zeroSig) (cs:=ds.toArray) 89 (.tmp 8) (.tmp 63) (by rw[hd1];exact sig_zero) (by rw[hd1];rfl) hd2 ?_)|(refine wpList_loadS nb 89 (.tmp 8) hu (by rw[hd1];exact sig_size) ?_))
    (with_reducible refine cg1.mono ?_);rintro e w6 ⟨rfl,hb6⟩;have hbel7:=bstep hbel2 hb6 lrf;have hown7:=hown2.keep hb6 lrf;clear cg1 nb hrg hb6 hbel2 hown2;go_wp2_with (at_builtin;go_loud (refine wpList_append_elem txs_ty PP Q0 hown7 hbel7 lrf (by omega) ?_ (hone:=by simp[enTx,Value.oneCell'])))
    intro v8 w8 hown8 hb8;clear hown7 hbel7;go_wp2_with fail;go_roundw;case rel=>exact⟨k+1,by omega,by go_num,HSK2.out,hb8,by rw[HLN.out,HQ.out];exact hown8⟩
    case measure=>simp[intOf];omega
  ·obtain rfl:k=x.sigs.length:=by omega
   rw[List.take_length]at hown;have HV:=Qh (show T=true by rw[hsk,List.drop_length];rfl);generalize [[],H1]++x.sigs.map (fun s=>32::sxT s)=L at *;have HO:=Qh hown;obtain⟨a2,c2,rfl,-⟩:=hown.shape;clear hsk hown hbel;go_wp2_with fail;go_ret2
   exact⟨HBW.out,.slice a2 L.length c2,by rw[HV.out]<;>rfl,⟨fun _=>by rw[HMH.out];exact HO.out.fromBase HB3.out.size,fun h=>by rw[HV.out]at h;cases h⟩⟩
theorem sjoin2_any (sep:List UInt8) (l:List (List UInt8)) (n:Nat) (hn:n=l.length) (a:Option Addr) (cap:Nat) (w:World) (hs:SlX w a cap l) (hl:(Lib.join l sep).length≤140737488355328) (hl2:l.length≤1000000000) :
  Calls prog 55 #[.slice a n cap,.string ⟨sep.toArray⟩] w fun e w'=>e=.returned (.string ⟨(Lib.join l sep).toArray⟩)∧Below w.heap.size w w':=by
 subst hn;have h0:=hs.le;have h1:=hs.max;cases l with
 | nil=>exact(Tryz.strings_Join_none a cap _ w).mono fun e w' ⟨he,hw⟩=>⟨he,hw ▸ Below.refl _ _⟩
 | cons x r=>
  obtain⟨b,o,rfl,hb,-⟩:=SlX.at hs (k:=0) (by simp);have e1:(((x::r).map fun y:List UInt8=>(⟨y.toArray⟩:ByteArray)).map fun y=>y.data.toList)=x::r:=by
   rw[List.map_map];exact(List.map_congr_left fun y _=>rfl).trans (List.map_id _)
  have h9:(x::r).length≤1000000000:=hl2;have c:=Tryz.strings_Join b o cap ((x::r).map fun y:List UInt8=>(⟨y.toArray⟩:ByteArray)) ⟨sep.toArray⟩ w (fun j y hj=>by
   rw[List.getElem?_map]at hj;obtain⟨z,hz,rfl⟩:=Option.map_eq_some_iff.1 hj;obtain⟨hlt,rfl⟩:=List.getElem?_eq_some_iff.1 hz;obtain⟨b',o',e,_,hc⟩:=SlX.at hs hlt;cases e
   exact hc) hb (by rw[List.length_map];omega) (by rw[List.length_map];exact h0) (by rw[e1];exact hl)
  rw[e1,List.length_map]at c;exact c
theorem pjoin2_any (sep:List UInt8) (l:List (List UInt8)) (n:Nat) (hn:n=l.length) (a:Option Addr) (cap:Nat) (w:World) (hs:SlX w a cap l) (hl:(Lib.join l sep).length≤140737488355328) (hl2:l.length≤1000000000) :
  Calls prog 24 #[.string ⟨sep.toArray⟩,.slice a n cap] w fun e w'=>e=.returned (.string ⟨(Lib.join l sep).toArray⟩)∧Below w.heap.size w w':=by
 have c:=sjoin2_any sep l n hn a cap w hs hl hl2;generalize Lib.join l sep=J at *;clear hs hl hl2 hn;go_enter func24,ntmps24
 go_wp2_with fail;(with_reducible refine c.mono ?_);rintro e w1 ⟨rfl,hb⟩;go_wp2_with fail;go_ret;exact⟨rfl,hb⟩
theorem formatP_any (n:Int) (h:In64 n) (w:World) (hp:PowTab w) :
  Calls prog 81 #[.int .i64 n,.int .i64 10] w fun e w'=>e=.returned (.string ⟨(Lib.itoa n).toArray⟩)∧Below w.heap.size w w':=
 (Tryz.strconv_FormatInt_10 n h.1 h.2 w hp).mono fun e w' ⟨he,k,os,hw⟩=>⟨he,by rw[hw];exact below_growN w k os⟩
def tabW (t:TabD):List (List UInt8):=[[86,65,76,95],numT t.id t.wide,t.sig]++(t.rows.flatMap fun r=>[Lib.itoa r.1,quoL r.2])
theorem joinTail_rows (l:List (Int×List UInt8)) (r:List (List UInt8)):Lib.joinTail [32] ((l.flatMap fun r=>[Lib.itoa r.1,quoL r.2])++r)=l.flatMap rowT++Lib.joinTail [32] r:=by
 induction l with
 | nil=>rfl
 | cons x l ih=>
  rw[List.flatMap_cons,List.flatMap_cons,List.append_assoc,joinTail_app,ih];simp only[Lib.joinTail,List.map_cons,List.map_nil,List.flatten_cons,List.flatten_nil,rowT,List.append_assoc,List.cons_append,List.nil_append,List.append_nil]
theorem flatMap_length2 (l:List (Int×List UInt8)):(l.flatMap fun r=>[Lib.itoa r.1,quoL r.2]).length=2*l.length:=by
 induction l with
 | nil=>rfl
 | cons x l ih=>rw[List.flatMap_cons,List.length_append,ih];simp;omega
theorem join_tab (t:TabD):Lib.join (tabW t++[[59]]) [32]=tabT t:=by
 unfold tabW tabT;show Lib.join ([86,65,76,95]::(numT t.id t.wide::t.sig::((t.rows.flatMap fun r=>[Lib.itoa r.1,quoL r.2])++[[59]]))) [32]=_;rw[Lib.join_cons];have e:∀ (x:List UInt8) r,Lib.joinTail [32] (x::r)=[32]++(x++Lib.joinTail [32] r):=fun x r=>by simp only[Lib.joinTail,List.map_cons,List.flatten_cons,List.append_assoc]
 rw[e,e,joinTail_rows];simp only[Lib.joinTail,List.map_cons,List.map_nil,List.flatten_cons,List.flatten_nil,List.cons_append,List.nil_append,List.append_nil]
set_option maxRecDepth 100000 in theorem ptable_any (x : TabD) (hx : TabOK x) (w : World) (cs : Array Value) (hrd : rdTab w x cs.toList) (hT : TabsU w) (hp : PowTab w) :
  Calls prog 54 #[.agg cs] w fun e w'=>e=.returned (.tuple #[.string ⟨(if tabB x then tabT x else []).toArray⟩,.bool (tabB x)])∧Below w.heap.size w w':=by
 obtain⟨a,cap,ecs,hs⟩:=hrd;obtain rfl:cs=x.cells (.slice a x.rows.length cap):=Array.toList_inj.1 ecs;clear ecs;have HTL:=Qh (fun h=>tabT_len x hx h);have HJT:=Qh (join_tab x);obtain⟨V,hV⟩:∃ V,V=Value.tuple #[.string ⟨(if tabB x then tabT x else []).toArray⟩,.bool (tabB x)]:=⟨_,rfl⟩
 rw[← hV];have HBAD:=Qh (show tabB x=false→V=.tuple #[.string ⟨#[]⟩,.bool false]from fun h=>by rw[hV,h];rfl);have HGOOD:=Qh (show tabB x=true→V=.tuple #[.string ⟨(tabT x).toArray⟩,.bool true]from fun h=>by rw[hV,h];rfl);clear hV;obtain⟨T,hT'⟩:∃ T,T=tabB x:=⟨_,rfl⟩
 rw[← hT']at HBAD HGOOD HTL;unfold tabB at hT';have cN:=fun W h=>pnumber_any x.id hx.id x.wide W h
 have cW1:=fun W=>pword_any x.sig (by have:=hx.sg;omega) W
 have HXS:=Qh hx.rw;have HWL1:=Qh (word_len (s:=x.sig));have HNL:=Qh (numT_len x.id x.wide);have e0:=TabD.cells_size x (.slice a x.rows.length cap);have HC:=Qh (show x.cells (.slice a x.rows.length cap)=#[.int .i64 x.line,.int .i64 x.col,.int .u32 (x.id:Nat),.bool x.wide,.string ⟨x.sig.toArray⟩,.slice a x.rows.length cap]from rfl);generalize x.cells (.slice a x.rows.length cap)=C at *;have g2:∀ h,C[2]'h=.int .u32 (x.id:Nat):=(by rw[HC.out];exact fun _=>rfl);have g3:∀ h,C[3]'h=.bool x.wide:=(by rw[HC.out];exact fun _=>rfl);obtain⟨zb,-,hbz⟩:=box1 w C 76;have HBZ:=Qh hbz;have ZB:=Qh zb;have HS:=Qh hs;have HT:=Qh hT';have HTU:=Qh (fun W (h:Below w.heap.size w W)=>TabsU.keep hT h);have HPT:=Qh (fun W (h:Below w.heap.size w W)=>PowTab.keep hp h);have hpz:=HPT.out _ hbz;clear hbz zb hs hT' hx hT hp;unfold numV at cN;obtain⟨tN,htN⟩:∃ t,t=(if numB x.id=true then numT x.id x.wide else []):=⟨_,rfl⟩
 rw[← htN]at cN;have HTN:=Qh htN;clear htN;generalize numB x.id=nB at *;generalize wordB x.sig=w1B at *;go_enter func54,ntmps54
 go_wp2_with fail;with_reducible refine(cN _ hpz).mono ?_
 rintro e w1 ⟨rfl,hb⟩;have B1:=ZB.out.keep hb lrf;rw[HC.out]at B1;have HB1:=Qh (bstep HBZ.out hb lrf);clear hb cN g2 g3 hpz;have f4:=B1.cell 4 _ rfl;have f5:=B1.cell 5 _ rfl;have HB1':=Qh B1;clear B1;cases nB
 ·have HV:=Qh (HBAD.out (by rw[HT.out];rfl));go_wp2_with fail;go_ret2
  exact⟨congrArg Ending.returned HV.out.symm,HB1.out⟩
 go_wp2_with fail;with_reducible refine(cW1 _).mono ?_
 rintro e w2 ⟨rfl,hb⟩;have B2:=HB1'.out.keep hb lrf;have HB2:=Qh (bstep HB1.out hb lrf);clear hb f4 f5 cW1;have f4:=B2.cell 4 _ rfl;have f5:=B2.cell 5 _ rfl;have HB2':=Qh B2;clear B2;cases w1B
 ·have HV:=Qh (HBAD.out (by rw[HT.out];rfl));go_wp2_with fail;go_ret2
  exact⟨congrArg Ending.returned HV.out.symm,HB2.out⟩
 by_cases hl:(256:Int) < x.rows.length
 ·have HV:=Qh (HBAD.out (by rw[HT.out,decide_eq_false (show ¬ x.rows.length≤256 by omega)];rfl));go_wp2_with fail;go_ret2
  exact⟨congrArg Ending.returned HV.out.symm,HB2.out⟩
 have HT2:=Qh (show T=x.rows.all rowB by rw[HT.out,decide_eq_true (show x.rows.length≤256 by omega)];rfl);clear HT;have htN:tN=numT x.id x.wide:=(by rw[HTN.out];simp);have hln:tN.length≤20:=(by rw[htN];exact HNL.out (by first|exact trivial|rfl));have hl1:=HWL1.out (by first|exact trivial|rfl);have HTW:=Qh (show tabW x=[[86,65,76,95],tN,x.sig]++(x.rows.flatMap fun r=>[Lib.itoa r.1,quoL r.2])by rw[htN];rfl);clear htN HTN HNL HWL1;generalize x.sig=SG at *;have HL3:=Qh (Owns.lit w2 w2.heap.size enTx 1 (fun _=>rfl) [[86,65,76,95],tN,SG] #[.string ⟨#[86,65,76,95]⟩,.string ⟨tN.toArray⟩,.string ⟨SG.toArray⟩] 9 3 rfl rfl (by decide) lrf);have HB3:=Qh ((Below.refl w2.heap.size w2).alloc lrf (.cells #[.string ⟨#[86,65,76,95]⟩,.string ⟨tN.toArray⟩,.string ⟨SG.toArray⟩] 9));have hlt0:w.heap.size < w2.heap.size:=HB2'.out.lt;go_wp2_with fail;clear f4 f5 hlt0;go_loopw [6,40] (fun v i wr=>∃ k:Nat,k≤x.rows.length∧i=.int .i64 (k:Nat)∧T=((x.rows.drop k).all rowB)∧Below w2.heap.size w2 wr∧Owns wr w2.heap.size 9 1 enTx v ([[86,65,76,95],tN,SG]++((x.rows.take k).flatMap fun r=>[Lib.itoa r.1,quoL r.2]))) (fun _ i _=>x.rows.length - (intOf i).toNat)
 case atStart=>exact⟨0,Nat.zero_le _,rfl,by rw[HT2.out];rfl,HB3.out,by simpa using HL3.out⟩
 case round=>
  clear HB3 HL3;obtain⟨k,hk,rfl,hsk,hbel,hown⟩:=hrel;have HBW:=Qh (bstep HB2.out hbel lrf);have hcnt:((x.rows.take k).flatMap fun r=>[Lib.itoa r.1,quoL r.2]).length=2*min k x.rows.length:=by
   rw[flatMap_length2,List.length_take]
  by_cases hlt:(k:Int) < x.rows.length
  ·have hlt':k < x.rows.length:=(by omega);obtain⟨b,o,rfl,hb,hc0,hc1⟩:=SlRw.at (HS.out.keep HBW.out lrf) hlt';have hmem:=List.getElem_mem hlt';have hok:=HXS.out _ hmem;have HLN:=Qh (show [[86,65,76,95],tN,SG]++((x.rows.take (k+1)).flatMap fun r=>[Lib.itoa r.1,quoL r.2])=([[86,65,76,95],tN,SG]++((x.rows.take k).flatMap fun r=>[Lib.itoa r.1,quoL r.2]))++[Lib.itoa x.rows[k].1,quoL x.rows[k].2]by
    rw[List.take_succ_eq_append_getElem hlt',List.flatMap_append,List.flatMap_cons,List.flatMap_nil,List.append_nil,List.append_assoc])
   have hPl:([[86,65,76,95],tN,SG]++((x.rows.take k).flatMap fun r=>[Lib.itoa r.1,quoL r.2])).length≤1000:=(by rw[List.length_append,hcnt];simp;omega);rw[List.drop_eq_getElem_cons hlt',List.all_cons]at hsk;generalize hP:[[86,65,76,95],tN,SG]++((x.rows.take k).flatMap fun r=>[Lib.itoa r.1,quoL r.2])=PP at *;generalize x.rows[k]=y at *;obtain⟨yv,yt⟩:=y;simp only at hc0 hc1 hok HLN;have hgq:=good_quo yt;have cq:=fun W h=>quoted_any yt (by have:=hok.2;omega) W h
   rw[hgq]at cq;have cI:=fun W h=>formatP_any yv hok.1 W h
   have HSK:=Qh (show T=((mayN yt == 0) && (x.rows.drop (k+1)).all rowB)from hsk);obtain⟨nb,-,hbn⟩:=box1 wr #[.int .i64 yv,.string ⟨yt.toArray⟩] 93;have hbel2:=bstep hbel hbn lrf;have hown2:=hown.keep hbn lrf;have HBW2:=Qh (bstep HBW.out hbn lrf);have NB:=Qh nb;have htz:=HTU.out _ HBW2.out;clear hbel hown hbn nb hsk hok hmem hP hgq hcnt;generalize quoL yt=QU at *;generalize Lib.itoa yv=I1 at *;generalize (mayN yt == 0)=mb at *;go_wp2_with fail;with_reducible refine(cq _ htz).mono ?_
   rintro e w6 ⟨rfl,hb6⟩;have nb6:=NB.out.keep hb6 lrf;have hbel3:=bstep hbel2 hb6 lrf;have hown3:=hown2.keep hb6 lrf;have HBW3:=Qh (bstep HBW2.out hb6 lrf);clear hb6 hbel2 hown2 cq hc0 hc1 htz;cases mb
   ·have HV:=Qh (HBAD.out (by rw[HSK.out];rfl));go_wp2_with fail;go_ret2
    exact⟨congrArg Ending.returned HV.out.symm,HBW3.out⟩
   ·have HSK2:=Qh (show T=(x.rows.drop (k+1)).all rowB by rw[HSK.out];rfl);obtain⟨q0,q1,-,-⟩:=nb6.two;have hpz:=HPT.out _ HBW3.out;clear HSK;go_wp2_with fail;with_reducible refine(cI _ hpz).mono ?_
    rintro e w8 ⟨rfl,hb8⟩;have hbel8:=bstep hbel3 hb8 lrf;have hown8:=hown3.keep hb8 lrf;have hlit:=(Owns.lit w8 w8.heap.size enTx 1 (fun _=>rfl) [I1,QU] #[.string ⟨I1.toArray⟩,.string ⟨QU.toArray⟩] 9 2 rfl rfl (by decide) lrf).sl.2;have hown9:=hown8.alloc (.cells #[.string ⟨I1.toArray⟩,.string ⟨QU.toArray⟩] 9);have hbel9:=hbel8.alloc hbel8.size (.cells #[.string ⟨I1.toArray⟩,.string ⟨QU.toArray⟩] 9);clear hb8 hbel3 hown3 cI q0 q1 hpz hown8 hbel8 nb6;go_wp2_with (at_builtin;go_loud (refine wpList_append_sl txs_ty PP [I1,QU] enTx_len (fun y _=>enTx_one y) hlit hown9 hbel9 lrf (by simp only[List.length_cons,List.length_nil];omega) ?_))
    intro v9 w9 hownA hbA;clear hlit hown9 hbel9;go_wp2_with fail;go_roundw;case rel=>exact⟨k+1,by omega,by go_num,HSK2.out,hbA,by rw[HLN.out];exact hownA⟩
    case measure=>simp[intOf];omega
  ·obtain rfl:k=x.rows.length:=by omega
   rw[List.take_length]at hown hcnt;have hTt:T=true:=(by rw[hsk,List.drop_length];rfl);have HV:=Qh (HGOOD.out hTt);have htl:=HTL.out hTt;rw[← HTW.out]at hown;have hPl:(tabW x).length≤1000:=(by rw[HTW.out,List.length_append,hcnt];simp;omega);rw[← HJT.out]at HV;have hjl:(Lib.join (tabW x++[[59]]) [32]).length≤1000000000:=(by rw[HJT.out];rw[List.length_append]at htl;omega);clear hsk hTt HTL HJT htl hcnt HTW HBAD HGOOD;generalize tabW x=PP at *;go_wp2_with (at_builtin;go_loud (refine wpList_append_elem txs_ty PP [59] hown hbel lrf (by omega) ?_ (hone:=by simp[enTx,Value.oneCell'])))
   intro v8 w8 hown8 hb8;have HB8:=Qh (bstep HB2.out hb8 lrf);obtain⟨a2,c2,rfl,hs2⟩:=hown8.shape;have cK:=pjoin_any [32] (PP++[[59]]) (PP++[[59]]).length rfl a2 c2 _ hs2 hjl (by simp;omega);generalize PP++[[59]]=L at *;clear hown hbel hown8 hb8 hs2 hjl;go_wp2_with fail;(with_reducible refine cK.mono ?_);rintro e w9 ⟨rfl,hb9⟩;have HB9:=Qh (bstep HB8.out hb9 lrf);clear hb9 cK;go_wp2_with fail;go_ret2
   exact⟨congrArg Ending.returned HV.out.symm,HB9.out⟩
end Go.Proofs.YtkblpaabknjckaaGreatDoor
