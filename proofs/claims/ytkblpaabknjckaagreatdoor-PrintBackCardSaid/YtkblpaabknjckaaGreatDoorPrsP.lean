/-
  The parser's table: contract. (Printed by gen_prsp.py.)
-/
import Derived.Test.YtkblpaabknjckaaGreatDoorBaseD
import Derived.Test.YtkblpaabknjckaaGreatDoorPrsO
set_option maxHeartbeats 128000000
set_option linter.unusedVariables false
namespace Go.Proofs.YtkblpaabknjckaaGreatDoor
open Go.Proofs.Tryz
open Go.RowKit Go.Shelf
def TPost (kp:Nat) (w:World) (R:PR TabD) (e:Ending) (w':World):Prop:=match R with
 | .ok x ts=>∃ C:Array Value,e=.returned (.agg C)∧fdTabT w' (x,w.heap.size,w'.heap.size) C.toList∧Only kp w w'∧PAt w' kp ts
 | .bad no l c=>e=.panicked [{ v:=faultV no l c,recovered:=false }]∧Only kp w w'
theorem fmtI64_any (n:Int) (h:-9223372036854775808≤n∧n < 9223372036854775808) (w:World) (hp:PowTab w) :
  Calls prog 81 #[.int .i64 n,.int .i64 10] w fun e w'=>e=.returned (.string ⟨(Lib.itoa n).toArray⟩)∧Below w.heap.size w w':=
 (Tryz.strconv_FormatInt_10 n h.1 (by omega) w hp).mono fun e w' ⟨he,k,os,hw⟩=>⟨he,by rw[hw];exact below_growN w k os⟩
theorem parseInt_bd {s:List UInt8} {u:Int} (h:Lib.parseIntB 64 s=.ok u):-9223372036854775808≤u∧u < 9223372036854775808:=by
 unfold Lib.parseIntB at h;split at h
 ·cases h
 ·simp only at h;split at h
  ·cases h
  ·cases h
  ·rename_i m hm
   split at h
   ·cases h
   ·split at h
    ·cases h
    ·rename_i h1 h2
     cases h
     by_cases hn:(‹UInt8›:UInt8).toNat=45
     ·rw[if_pos hn];omega
     ·rw[if_neg hn];omega
set_option maxRecDepth 100000 in theorem partab_any (ts : List TokD) (hts : TsB ts) (kp : Nat) (w : World) (h : PAt w kp ts) (hLs : ∀ W, Only kp w W → PowTab W ∧ SentP W) :
  Calls prog 45 #[.pointer (some ⟨kp,0,none⟩)] w fun e w'=>TPost kp w (tableR ts) e w':=by
 obtain⟨R,hR⟩:∃ R,R=tableR ts:=⟨_,rfl⟩
 rw[← hR];unfold tableR at hR;have HR:=Qh hR;clear hR;have hkw:=h.lt;have HL:=Qh hLs;have hb0:Below w.heap.size w (w.alloc (.cells zeroTabD 76)):=(Below.refl _ _).alloc lrf _;have HO:=Qh (Only.of_below kp hb0);have HP:=Qh (h.keep hb0);have HZ:=Qh (heap_alloc_new w (.cells zeroTabD 76));have hf0:=tk_f0;have hf1:=tk_f1;have hf2:=tk_f2;clear hb0 h hLs;have tsB:=hts;go_enter func45,ntmps45
 cases hX:mustR [86,65,76,95] ts with
 | bad no ln c=>
  have cc:=must_any [86,65,76,95] ts tsB.1 kp _ HP.out;rw[hX]at cc;unfold PPost at cc;have hr:=HR.out;rw[hX,PR.bind_bad]at hr;have HVR:=Qh hr;clear hr;go_wp2_with fail;(with_reducible refine cc.mono ?_);rintro e w9 ⟨rfl,ho⟩;have HO9:=Qh (HO.out.trans ho);clear ho cc;go_wp2_with fail;exact⟨rfl,by rw[HVR.out];exact⟨rfl,HO9.out⟩⟩
 | ok t ts1=>
  have cc:=must_any [86,65,76,95] ts tsB.1 kp _ HP.out;rw[hX]at cc;unfold PPost at cc;unfold tkV enTok at cc;have hr:=HR.out;rw[hX,PR.bind_ok]at hr;have HR:=Qh hr;obtain⟨ht',hxx⟩:=must_ok hX tsB;have ts1B:=ht';have HXX:=Qh hxx;clear hr ht' hxx tsB;go_wp2_with fail;(with_reducible refine cc.mono ?_);rintro e W1 ⟨rfl,ho,hp⟩;have HZ:=Qh (kind_only HZ.out (by omega) ho);have HO:=Qh (HO.out.trans ho);have HP:=Qh hp;clear cc ho hp;obtain⟨C0,hC0⟩:∃ C,C=(⟨t.line,t.col,0,false,[],[]⟩:TabD).cells (.slice none 0 0):=⟨_,rfl⟩
  have HC0:=Qh hC0;have sC0:C0.size=6:=(by rw[hC0];rfl);have uC0:C0.all (·.oneCell')=true:=(by rw[hC0];exact TabD.cells_one _ _ _ _);clear hC0;go_upto_region 2 with (refine wpList_newS (Z:=zeroTabD) (cs:=C0) 76 (.tmp 3) (.tmp 10) (by rw[sC0];exact tab_zero) (by rw[sC0];rfl) uC0 ?_ (hy:=by rw[HC0.out];rfl))
  have hbn:Below W1.heap.size W1 (W1.alloc (.cells C0 76)):=(Below.refl _ _).alloc lrf _;have hkz:w.heap.size < W1.heap.size:=(gE HZ.out)
  have hkm:w.heap.size≤W1.heap.size:=Nat.le_of_lt hkz;have hkkm:kp < W1.heap.size:=(by omega);have HC:=Qh (show(W1.alloc (.cells C0 76)).heap[W1.heap.size]? = some (.cells ((⟨t.line,t.col,0,false,[],[]⟩:TabD).cells (.slice none 0 0)) 76)by rw[← HC0.out];exact heap_alloc_new W1 _);have HZ:=Qh (kind_at HZ.out hbn);have HO:=Qh (HO.out.trans (Only.of_below kp hbn));have HP:=Qh (HP.out.keep hbn);clear hbn;generalize hkk:W1.heap.size=km at *;generalize W1.alloc (.cells C0 76)=W2 at *;cases hX:idR ts1 with
  | bad no ln c=>
   have cc:=id_any ts1 ts1B.1 ts1B.head kp _ HP.out (HL.out _ HO.out).1 (HL.out _ HO.out).2;rw[hX]at cc;unfold PPost at cc;have hr:=HR.out;rw[hX,PR.bind_bad]at hr;have HVR:=Qh hr;clear hr;go_wp2_with fail;(with_reducible refine cc.mono ?_);rintro e w9 ⟨rfl,ho⟩;have HO9:=Qh (HO.out.trans ho);clear ho cc;go_wp2_with fail;exact⟨rfl,by rw[HVR.out];exact⟨rfl,HO9.out⟩⟩
  | ok i ts2=>
   have cc:=id_any ts1 ts1B.1 ts1B.head kp _ HP.out (HL.out _ HO.out).1 (HL.out _ HO.out).2;rw[hX]at cc;unfold PPost at cc;have hr:=HR.out;rw[hX,PR.bind_ok]at hr;have HR:=Qh hr;obtain⟨ht',hxx⟩:=id_ok hX ts1B;have ts2B:=ht';have HXX:=Qh hxx;clear hr ht' hxx ts1B;go_wp2_with fail;(with_reducible refine cc.mono ?_);rintro e W3 ⟨rfl,ho,hp⟩;have HZ:=Qh (kind_only HZ.out (by omega) ho);have HC:=Qh (kind_only HC.out (by omega) ho);have HO:=Qh (HO.out.trans ho);have HP:=Qh hp;clear cc ho hp;obtain⟨iN,iB⟩:=i;simp only at *;have c2:=Blk.cell ⟨_,HC.out⟩ 2 (.int .u32 0) rfl;have r2:=Blk.free ⟨_,HC.out⟩ 2;have c3:=Blk.cell ⟨_,HC.out⟩ 3 (.bool false) rfl;have r3:=Blk.free ⟨_,HC.out⟩ 3;have f2_3:∀ v,(W3.setCell ⟨km,2,none⟩ v).cell? ⟨km,3,none⟩=some (.bool false):=fun v=>Blk.cell ⟨_,set_at HC.out 2 v⟩ 3 _ rfl
   have g2_3:∀ v,(W3.setCell ⟨km,2,none⟩ v).frozen? ⟨km,3,none⟩=false:=fun v=>Blk.free ⟨_,set_at HC.out 2 v⟩ 3
   have HC2:=Qh (show((W3.setCell ⟨km,2,none⟩ (.int .u32 (iN:Nat))).setCell ⟨km,3,none⟩ (.bool iB)).heap[km]? = some (.cells ((⟨t.line,t.col,iN,iB,[],[]⟩:TabD).cells (.slice none 0 0)) 76)from (set_at (set_at HC.out 2 (.int .u32 (iN:Nat))) 3 (.bool iB)));have HO2:=Qh (Only.new (Only.new HO.out km hkm 2 (.int .u32 (iN:Nat))) km hkm 3 (.bool iB));have HZ2:=Qh (set_ne (set_ne HZ.out (show w.heap.size≠km by omega) 2 (.int .u32 (iN:Nat))) (show w.heap.size≠km by omega) 3 (.bool iB));have HP2:=Qh (PAt.set (PAt.set HP.out hkkm 2 (.int .u32 (iN:Nat))) hkkm 3 (.bool iB));go_upto_region 3 with fail
   clear c2 r2 c3 r3;have HC:=HC2;have HO:=HO2;have HZ:=HZ2;have HP:=HP2;clear HC2 HO2 HZ2 HP2;generalize ((W3.setCell ⟨km,2,none⟩ (.int .u32 (iN:Nat))).setCell ⟨km,3,none⟩ (.bool iB))=W4 at *;cases hX:nameR ts2 with
   | bad no ln c=>
    have cc:=name_any ts2 ts2B.1 (Nat.le_trans ts2B.head (by decide)) kp _ HP.out;rw[hX]at cc;unfold PPost at cc;have hr:=HR.out;rw[hX,PR.bind_bad]at hr;have HVR:=Qh hr;clear hr;go_wp2_with fail;(with_reducible refine cc.mono ?_);rintro e w9 ⟨rfl,ho⟩;have HO9:=Qh (HO.out.trans ho);clear ho cc;go_wp2_with fail;exact⟨rfl,by rw[HVR.out];exact⟨rfl,HO9.out⟩⟩
   | ok nm ts3=>
    have cc:=name_any ts2 ts2B.1 (Nat.le_trans ts2B.head (by decide)) kp _ HP.out;rw[hX]at cc;unfold PPost at cc;have hr:=HR.out;rw[hX,PR.bind_ok]at hr;have HR:=Qh hr;obtain⟨ht',hxx⟩:=name64_ok hX ts2B;have ts3B:=ht';have HXX:=Qh hxx;clear hr ht' hxx ts2B;go_wp2_with fail;(with_reducible refine cc.mono ?_);rintro e W5 ⟨rfl,ho,hp⟩;have HZ:=Qh (kind_only HZ.out (by omega) ho);have HC:=Qh (kind_only HC.out (by omega) ho);have HO:=Qh (HO.out.trans ho);have HP:=Qh hp;clear cc ho hp;have c4:=Blk.cell ⟨_,HC.out⟩ 4 (.string ⟨#[]⟩) rfl;have r4:=Blk.free ⟨_,HC.out⟩ 4;have HC2:=Qh (show(W5.setCell ⟨km,4,none⟩ (.string ⟨nm.toArray⟩)).heap[km]? = some (.cells ((⟨t.line,t.col,iN,iB,nm,[]⟩:TabD).cells (.slice none 0 0)) 76)from (set_at HC.out 4 (.string ⟨nm.toArray⟩)));have HO2:=Qh (Only.new HO.out km hkm 4 (.string ⟨nm.toArray⟩));have HZ2:=Qh (set_ne HZ.out (show w.heap.size≠km by omega) 4 (.string ⟨nm.toArray⟩));have HP2:=Qh (PAt.set HP.out hkkm 4 (.string ⟨nm.toArray⟩));go_upto_region 4 with fail
    clear c4 r4;have HC:=HC2;have HO:=HO2;have HZ:=HZ2;have HP:=HP2;clear HC2 HO2 HZ2 HP2;generalize (W5.setCell ⟨km,4,none⟩ (.string ⟨nm.toArray⟩))=W6 at *;obtain⟨KF,hKR,hKF⟩:∃ KF:List (Int×List UInt8)→List TokD→PR TabD,R=(rowsF ts3.length [] ts3).bind KF∧KF=fun l ts=>(mustR [59] ts).bind fun _ ts=>.ok ⟨t.line,t.col,iN,iB,nm,l⟩ ts:=⟨_,HR.out,rfl⟩
    have HKR:=Qh hKR;have HKF:=Qh hKF;clear hKR hKF;go_wp2_with fail;go_loopw [4,5,6] (fun x4 x5 x6 wr=>∃ (l:List (Int×List UInt8)) (v:Value) (tz:List TokD) (g:Nat),TsB tz∧tz.length≤g∧l.length≤256∧R=(rowsF g l tz).bind KF∧PAt wr kp tz∧Only kp w wr∧wr.heap[km]? = some (.cells ((⟨t.line,t.col,iN,iB,nm,[]⟩:TabD).cells (v)) 76)∧wr.heap[w.heap.size]? = some (.cells zeroTabD 76)∧Owns wr w.heap.size 93 2 enRw v l) (fun _ _ _ wr=>cntP wr kp)
    case atStart=>exact⟨[],_,ts3,ts3.length,ts3B,lrf,by simp,HKR.out,HP.out,HO.out,HC.out,HZ.out,Owns.nil _ _ _ _ _⟩
    case round=>
     obtain⟨l,v,tz,g,htz,hg,hl256,hRz,hpz,hoz,hcz,hzz,hown⟩:=hrel;have hpos:=htz.1.pos;obtain⟨g',rfl⟩:∃ g',g=g' + 1:=⟨g - 1,by omega⟩
     have HRz:=Qh (show R=(if (headT tz).kind=2 then (match intP (headT tz).text with|none=>wrongR 8 tz|some v=>if l.length=256 then wrongR 5 tz else (nextR 3 tz.tail).bind fun x ts'=>rowsF g' (l++[(v,x.text)]) ts') else .ok l tz:PR (List (Int×List UInt8))).bind KF from hRz);clear hRz;have HOz:=Qh hoz;have HCz:=Qh hcz;have HZz:=Qh hzz;have HOW:=Qh hown;have HPz:=Qh hpz;have HCN:=Qh (PAt.cnt hpz);clear hpz hoz hcz hzz hown;obtain⟨av,cv,rfl,-⟩:=HOW.out.shape;have cw:=fun W hW=>now_any tz hpos kp W hW
     have cg:=fun n W hW=>wrong_any n tz hpos kp W hW
     unfold tkV enTok at cw;have cw0:=cw wr HPz.out;go_wp2_with fail;(with_reducible refine cw0.mono ?_);rintro e W40 ⟨rfl,hb⟩;have HOe:=Qh (HOz.out.trans (Only.of_below kp hb));have HPe:=Qh (HPz.out.keep hb);have HCe:=Qh (kind_at HCz.out hb);have HZe:=Qh (kind_at HZz.out hb);have HOWN:=Qh (HOW.out.keep hb lrf);clear cw0 hb;by_cases hk:(headT tz).kind=2;case neg=>
      have hv1:R=KF l tz:=(by rw[HRz.out,if_neg hk];rfl);rw[HKF.out]at hv1;replace hv1:R=(mustR [59] tz).bind fun _ ts=>.ok ⟨t.line,t.col,iN,iB,nm,l⟩ ts:=hv1
      have e1:=bN hk;clear cw cg;generalize (headT tz).kind=K at *;cases hX:mustR [59] tz with
      | bad no ln c=>
       have cc:=must_any [59] tz htz.1 kp _ HPe.out;rw[hX]at cc hv1;unfold PPost at cc;have HV:=Qh (show R=.bad no ln c from hv1);clear hv1 hX;go_wp2_with fail;(with_reducible refine cc.mono ?_);rintro e W41 ⟨rfl,ho⟩;have HO9:=Qh (HOe.out.trans ho);clear ho cc;go_wp2_with fail;exact⟨rfl,by rw[HV.out];exact⟨rfl,HO9.out⟩⟩
      | ok tk tzu=>
       have cc:=must_any [59] tz htz.1 kp _ HPe.out;rw[hX]at cc hv1;unfold PPost at cc;have HV:=Qh (show R=.ok ⟨t.line,t.col,iN,iB,nm,l⟩ tzu from hv1);clear hv1 hX;go_wp2_with fail;(with_reducible refine cc.mono ?_);rintro e W41 ⟨rfl,ho,hp⟩;have HOf:=Qh (HOe.out.trans ho);have HPf:=Qh hp;have hce:=kind_only HCe.out (by omega) ho;have hze:=kind_only HZe.out (by omega) ho;have HOWf:=Qh (Owns.only HOWN.out hkw ho);obtain⟨CC,hCC⟩:∃ C,C=(⟨t.line,t.col,iN,iB,nm,[]⟩:TabD).cells (.slice av l.length cv):=⟨_,rfl⟩
       rw[← hCC]at hce;have HCC:=Qh hCC;have HZf:=Qh hze;have sCC:CC.size=6:=(by rw[hCC];rfl);have uCC:CC.all (·.oneCell')=true:=(by rw[hCC];exact TabD.cells_one _ _ _ _);have bks:Blk W41 km CC:=⟨_,hce⟩
       have bz:Blk W41 w.heap.size zeroTabD:=⟨_,hze⟩
       have huS:=underlying76;clear hce hze hCC cc ho hp;go_wp2_with (first|(refine wpList_loadS bks 76 (.tmp 3) huS (by rw[sCC];exact tab_size) ?_)|(refine wpList_storeS (cs:=CC) bz 76 (.tmp 2) (.tmp 63) (by rw[sCC];exact tab_size) (by rw[sCC];rfl) uCC ?_))
       have hrun:=run_loadS (bz.row CC) 76 _ huS rfl (by rw[sCC];exact tab_size);refine bodyPost_ret (v:=.agg CC) (by simp[results,results45,Act.put,asAddr,hrun]) rfl ?_;rw[HV.out];refine⟨CC,rfl,⟨.slice av l.length cv,by rw[HCC.out];rfl,?_,?_⟩,HOf.out.row _ lrf CC,HPf.out.row hkw CC⟩
       ·exact HOWf.out.apt (by decide) HZf.out (fun b _ hne=>heap_setRow_other _ _ _ _ hne)
       ·intro k hk;have:=(HOWf.out.lt k hk).2
        simpa [World.setRow]using this
     case pos=>
      have hRk:R=(match intP (headT tz).text with|none=>wrongR 8 tz|some v=>if l.length=256 then wrongR 5 tz else (nextR 3 tz.tail).bind fun x ts'=>rowsF g' (l++[(v,x.text)]) ts':PR (List (Int×List UInt8))).bind KF:=(by rw[HRz.out,if_pos hk]);have HRk:=Qh hRk;have cw1:=cw _ HPe.out;have hlen:=htz.head;have htB:=htz.tail (by rw[hk];decide);have HNX:=Qh (show nextR 2 tz=.ok (headT tz) tz.tail by unfold nextR;rw[if_pos ⟨hk,by decide⟩]);have cnx:=fun W hW=>next_any 2 tz htz.1 kp W hW
      rw[HNX.out]at cnx;unfold PPost tkV enTok at cnx;have HWR:=Qh (show(wrongR 8 tz:PR (List (Int×List UInt8)))=.bad 8 (headT tz).line (headT tz).col from rfl);have HWM:=Qh (show(wrongR 5 tz:PR (List (Int×List UInt8)))=.bad 5 (headT tz).line (headT tz).col from rfl);clear hRk;rw[hk]at cw1 ⊢;simp only[hk]at cnx;generalize (headT tz).text=T0 at *;go_wp2_with fail;(with_reducible refine cw1.mono ?_);rintro e W41 ⟨rfl,hb⟩;have HOf:=Qh (HOe.out.trans (Only.of_below kp hb));have HPf:=Qh (HPe.out.keep hb);have HCf:=Qh (kind_at HCe.out hb);have HZf:=Qh (kind_at HZe.out hb);have HOWf:=Qh (HOWN.out.keep hb lrf);clear cw1 cw hb;have HSen:=Qh (HL.out _ HOf.out).2;cases hpar:Lib.parseIntB 64 T0 with
      | range=>
       have hi:intP T0=none:=(by unfold intP;rw[hpar]);have HV:=Qh (show R=.bad 8 (headT tz).line (headT tz).col by rw[HRk.out,hi];rfl);obtain⟨e1v,y1,y2⟩:=HSen.out.rng;have c1:=Tryz.strconv_ParseInt_10_at64_range ⟨T0.toArray⟩ (by show T0.length≤_;omega) (by exact hpar) e1v W41 y1 y2;clear hpar hi;go_wp2_with fail;(with_reducible refine c1.mono ?_);rintro e W42 ⟨N,rfl,-,-,hb⟩;have HOg:=Qh (HOf.out.trans (Only.of_below kp hb));have cG:=cg 8 W42 (HPf.out.keep hb);clear hb c1 cg cnx;go_wp2_with fail;with_reducible refine(cG).mono ?_
       rintro e W49 ⟨rfl,hb⟩;have HO9:=Qh (HOg.out.trans (Only.of_below kp hb));clear hb;go_wp2_with fail;exact⟨rfl,by rw[HV.out];exact⟨rfl,HO9.out⟩⟩
      | ok u=>
       have hub:=parseInt_bd hpar;have c1:=Tryz.strconv_ParseInt_10_at64_ok ⟨T0.toArray⟩ (by show T0.length≤_;omega) u (by exact hpar) W41;have HIP:=Qh (show intP T0=if Lib.itoa u=T0 then some u else none by unfold intP;rw[hpar]);have cfI:=fun W hW=>fmtI64_any u hub W hW
       clear hpar hub;go_wp2_with fail;(with_reducible refine c1.mono ?_);rintro e W42 ⟨rfl,hb0⟩;have hb:Below W41.heap.size W41 W42:=by
        rcases hb0 with rfl|⟨_,rfl⟩
        ·exact Below.refl _ _
        ·exact Joins.below_bytesWorld _ _ _ _ lrf
       have HOg:=Qh (HOf.out.trans (Only.of_below kp hb));have HPg:=Qh (HPf.out.keep hb);have HCg:=Qh (kind_at HCf.out hb);have HZg:=Qh (kind_at HZf.out hb);have HOWg:=Qh (HOWf.out.keep hb lrf);have cF:=cfI W42 (HL.out _ HOg.out).1;clear hb hb0 c1 cfI;generalize Lib.itoa u=I0 at *;go_wp2_with fail;(with_reducible refine cF.mono ?_);rintro e W43 ⟨rfl,hb⟩;have HOh:=Qh (HOg.out.trans (Only.of_below kp hb));have HPh:=Qh (HPg.out.keep hb);have HCh:=Qh (kind_at HCg.out hb);have HZh:=Qh (kind_at HZg.out hb);have HOWh:=Qh (HOWg.out.keep hb lrf);clear hb cF;by_cases hI:I0=T0;case neg=>
        have HV:=Qh (show R=.bad 8 (headT tz).line (headT tz).col by rw[HRk.out,HIP.out,if_neg hI];rfl);have eI:=bN hI;have cG:=cg 8 W43 HPh.out;clear cg cnx;go_wp2_with fail;with_reducible refine(cG).mono ?_
        rintro e W49 ⟨rfl,hb⟩;have HO9:=Qh (HOh.out.trans (Only.of_below kp hb));clear hb;go_wp2_with fail;exact⟨rfl,by rw[HV.out];exact⟨rfl,HO9.out⟩⟩
       case pos=>
        subst hI;have c5:=Blk.cell ⟨_,HCh.out⟩ 5 (.slice av l.length cv) rfl;have r5:=Blk.free ⟨_,HCh.out⟩ 5;by_cases h256:l.length=256
        ·have HV:=Qh (show R=.bad 5 (headT tz).line (headT tz).col by
          rw[HRk.out,HIP.out,if_pos rfl];simp only;rw[if_pos h256];rfl)
         have cG:=cg 5 W43 HPh.out;clear cg cnx;rw[h256]at c5;go_wp2_with fail;with_reducible refine(cG).mono ?_
         rintro e W49 ⟨rfl,hb⟩;have HO9:=Qh (HOh.out.trans (Only.of_below kp hb));clear hb;go_wp2_with fail;exact⟨rfl,by rw[HV.out];exact⟨rfl,HO9.out⟩⟩
        ·have HV:=Qh (show R=((nextR 3 tz.tail).bind fun x ts'=>rowsF g' (l++[(u,x.text)]) ts').bind KF by
          rw[HRk.out,HIP.out,if_pos rfl];simp only;rw[if_neg h256])
         have h256i:((l.length:Int) == 256)=false:=bN (by omega);have cN:=cnx W43 HPh.out;clear cg cnx;go_wp2_with fail;(with_reducible refine cN.mono ?_);rintro e W44 ⟨rfl,ho,hp⟩;have HO4:=Qh (HOh.out.trans ho);have HP4:=Qh hp;have HC4:=Qh (kind_only HCh.out (by omega) ho);have HZ4:=Qh (kind_only HZh.out (by omega) ho);have HOW4:=Qh (Owns.only HOWh.out hkw ho);have c5x:=Blk.cell ⟨_,HC4.out⟩ 5 (.slice av l.length cv) rfl;have r5x:=Blk.free ⟨_,HC4.out⟩ 5;have hltz:=tail_lt htz;clear cN ho hp c5 r5;generalize tz.tail=tzt at *;have HOd:=Qh (HO4.out.trans (Only.of_below kp (Below.refl W44.heap.size W44).drew));have HPd:=Qh (HP4.out.keep (Below.refl W44.heap.size W44).drew);have cn:=next_any 3 tzt htB.1 kp W44.drew HPd.out;cases hX:nextR 3 tzt with
         | bad no ln c=>
          rw[hX]at cn;unfold PPost at cn;have hr:=HV.out;rw[hX,PR.bind_bad,PR.bind_bad]at hr;have HVR:=Qh hr;clear hr hX;go_wp2_with fail;refine wp_region_heldL 10 (fun (w':World)=>w'.cell? ⟨km,5,none⟩=some (.slice av l.length cv)) (by kernel_rfl) c5x (fun hHeld=>?_);refine hL 0 ?_;try simp only[spt]
          refine hL 1 ?_;try simp only[spt]
          refine hL 2 ?_;try simp only[spt]
          refine hL 3 ?_;try simp only[spt]
          refine heldL_call 4 rfl (by kernel_rfl) (fun K hK=>?_);go_simp;(with_reducible refine cn.mono ?_);rintro e W45 ⟨rfl,ho⟩;have HO9:=Qh (HOd.out.trans ho);clear ho cn;dsimp only;go_wp2_with fail;exact⟨rfl,by rw[HVR.out];exact⟨rfl,HO9.out⟩⟩
         | ok x tzu=>
          rw[hX]at cn;unfold PPost tkV enTok at cn;have hr:=HV.out;rw[hX,PR.bind_ok]at hr;have HVR:=Qh hr;obtain⟨hub,hult⟩:=next_takes _ _ _ _ hX htB;clear hr hX;go_wp2_with fail;refine wp_region_heldL 10 (fun (w':World)=>w'.cell? ⟨km,5,none⟩=some (.slice av l.length cv)) (by kernel_rfl) c5x (fun hHeld=>?_);refine hL 0 ?_;try simp only[spt]
          refine hL 1 ?_;try simp only[spt]
          refine hL 2 ?_;try simp only[spt]
          refine hL 3 ?_;try simp only[spt]
          refine heldL_call 4 rfl (by kernel_rfl) (fun K hK=>?_);go_simp;(with_reducible refine cn.mono ?_);rintro e W45 ⟨rfl,ho,hp⟩;have HC45:=Qh (kind_only (W:=W44.drew) HC4.out (by omega) ho);have HZ45:=Qh (kind_only (W:=W44.drew) HZ4.out (by omega) ho);have HO45:=Qh (HOd.out.trans ho);have HP45:=Qh hp;have HW45:=Qh (Owns.only (W:=W44.drew) (HOW4.out.keep (Below.refl W44.heap.size W44).drew lrf) hkw ho);have c5b:=Blk.cell ⟨_,HC45.out⟩ 5 (.slice av l.length cv) rfl;have hb5:Below W45.heap.size W45 (W45.alloc (.cells #[.int .i64 u,.string ⟨x.text.toArray⟩] 93)):=(Below.refl _ _).alloc lrf _;clear cn ho hp;clear hHeld;refine hK.out _ _ ?_ (fun hHeld=>?_)
          ·exact c5b
          clear hK K;try simp only[spt]
          refine hL 5 ?_;try simp only[spt]
          refine hL 6 ?_;try simp only[spt]
          refine heldL_call 7 rfl (by kernel_rfl) (fun K hK=>?_);go_simp;clear hHeld;refine hK.out _ _ ?_ (fun hHeld=>?_)
          ·exact cell_keep' c5b hb5
          clear hK K;try simp only[spt]
          refine heldL_call 8 rfl (by kernel_rfl) (fun K hK=>?_);have HC42:=Qh (kind_at HC45.out hb5);have HZ42:=Qh (kind_at HZ45.out hb5);have HO42:=Qh (HO45.out.trans (Only.of_below kp hb5));have HP42:=Qh (HP45.out.keep hb5);have HW42:=Qh (HW45.out.keep hb5 lrf);have hn42:=heap_alloc_new W45 (.cells #[.int .i64 u,.string ⟨x.text.toArray⟩] 93);have hs42:w.heap.size≤(W45.alloc (.cells #[.int .i64 u,.string ⟨x.text.toArray⟩] 93)).heap.size:=HO42.out.size;clear hb5;generalize W45.alloc (.cells #[.int .i64 u,.string ⟨x.text.toArray⟩] 93)=W46 at *;refine step_append_elem (en:=enRw) rows_ty l (u,x.text) (g:=W45.heap.size) HW42.out (Below.refl w.heap.size W46) hs42 (by omega) hn42 ?_ (hone:=by simp[enRw,Value.oneCell']);rintro v5 w5 hown5 hb6 hgr5 -;obtain⟨a5,n5,c5,hv5⟩:∃ a n c,v5=.slice a n c:=by obtain⟨a5,c5,e,-⟩:=hown5.shape;exact⟨_,_,_,e⟩
          subst hv5;have HC5:=Qh (heap_grown2 HC42.out HW42.out (by decide) hgr5);have HZ5:=Qh (heap_grown2 HZ42.out HW42.out (by decide) hgr5);have HO5:=Qh (Only.low HO42.out hb6);have HP5:=Qh (PAt.low HP42.out hkw hb6);have hcv5:=Blk.cell ⟨_,HC5.out⟩ 5 (.slice av l.length cv) rfl;have hfr5:=Blk.free ⟨_,HC5.out⟩ 5;clear hb6 hgr5 hn42 hs42;clear hHeld;refine hK.out _ _ ?_ (fun hHeld=>?_)
          ·exact hcv5
          clear hK K;try simp only[spt]
          refine hL 9 ?_;try simp only[spt]
          refine heldL_last 10 rfl (by kernel_rfl) (by kernel_rfl) (fun K hK=>?_);go_simp;refine hK.out _ _ ?_;clear hK K;try simp only[spt]
          refine wpAnyL_done (by kernel_rfl) ?_ _;have HC6:=Qh (set_at HC5.out 5 (.slice a5 n5 c5));have HZ6:=Qh (set_ne HZ5.out (show w.heap.size≠km by omega) 5 (.slice a5 n5 c5));have HO6:=Qh (Only.new HO5.out km hkm 5 (.slice a5 n5 c5));have HP6:=Qh (PAt.set HP5.out hkkm 5 (.slice a5 n5 c5));have OW6:=Qh (hown5.apt (by decide) HC5.out (fun b _ hne=>Below.heap_setCell _ ⟨km,5,none⟩ (.slice a5 n5 c5) b hne));have HCN6:=Qh (PAt.cnt HP6.out);clear hown5 hcv5 hfr5 c5x r5x c5b;go_wp2_with fail;go_roundw;case rel=>exact⟨l++[(u,x.text)],_,tzu,g',hub,by omega,by simp only[List.length_append,List.length_cons,List.length_nil];omega,HVR.out,HP6.out,HO6.out,HC6.out,HZ6.out,OW6.out⟩
          case measure=>rw[HCN6.out,HCN.out];omega
      | _=>
       have hi:intP T0=none:=(by unfold intP;rw[hpar]);have HV:=Qh (show R=.bad 8 (headT tz).line (headT tz).col by rw[HRk.out,hi];rfl);obtain⟨e1v,y1,y2⟩:=HSen.out.syn;have c1:=Tryz.strconv_ParseInt_10_at64_syntax ⟨T0.toArray⟩ (by show T0.length≤_;omega) (by exact hpar) e1v W41 y1 y2;clear hpar hi;go_wp2_with fail;(with_reducible refine c1.mono ?_);rintro e W42 ⟨N,rfl,-,-,hb⟩;have HOg:=Qh (HOf.out.trans (Only.of_below kp hb));have cG:=cg 8 W42 (HPf.out.keep hb);clear hb c1 cg cnx;go_wp2_with fail;with_reducible refine(cG).mono ?_
       rintro e W49 ⟨rfl,hb⟩;have HO9:=Qh (HOg.out.trans (Only.of_below kp hb));clear hb;go_wp2_with fail;exact⟨rfl,by rw[HV.out];exact⟨rfl,HO9.out⟩⟩
end Go.Proofs.YtkblpaabknjckaaGreatDoor
