/-
  The parser's whole source: contract. (Printed by gen_prsq.py.)
-/
import Derived.Test.YtfflljgnpfldfaaGreatDoorPrsP
set_option linter.all false
set_option maxHeartbeats 128000000
set_option maxRecDepth 100000
namespace Go.Proofs.YtfflljgnpfldfaaGreatDoor
open Go.Proofs.Tryz
open Go.RowKit Go.Shelf
theorem S6:eO prog 52 98 1 16:=eO.mk' .nilIface underlying52 aj rfl ah ah
theorem tZ {e:TypeId} (he:9≠e) (rZ:63≠e) (V5:45≠e):kI qa e:=V4 he rZ V5
def ZJ (kp:Nat) (w:World) (R:PR (List aX)) (e:Ending) (w':World):Prop:=match R with
 | .ok l ts=>∃ (v:Value) (T:List (aX×Nat×Nat)),e=.returned v∧aZ w' w.heap.size 98 qa 1 v T∧T.map Prod.fst=l∧fK w.heap.size T w'.heap.size∧aA kp w w'
 | .bad no l c=>e=.panicked [{ v:=eH no l c,recovered:=false }]∧aA kp w w'
theorem ZK {ts aJ:List aw} {x:Unit} (h:dQ ts=.ok x aJ) (hb:di ts):di aJ∧aJ.length≤ts.length:=YQ _ h hb
theorem aq9:(prog.info? 24).map (fun i=>(i.zero,i.size))=some (some (.agg #[.int .i64 0,.int .i64 0]),2):=aj
theorem Ud:(prog.info? 24).map (·.size)=some 2:=aj
theorem ara (ts:List aw) (ed:di ts) (kp:Nat) (w:World) (h:bH w kp ts) (yG:∀ W,aA kp w W→ng W∧rB W) :
  Calls prog 37 #[.pointer (some ⟨kp,0,none⟩)] w fun e w'=>ZJ kp w (zY ts) e w':=by
 obtain⟨R,hR⟩:∃ R,R=zY ts:=⟨_,rfl⟩
 rw[← hR];unfold zY at hR;have HR:=Qh hR;clear hR;have dG:=h.lt;refine fQ yG (aA.of_below kp (aC w.heap.size w)) h pC ?_;intro HL HO HP hf0;have jk:=tU;have hf2:=yF;clear h yG;have pD:=ed;go_enter func37,ntmps37
 cases hX:dQ ts with
 | bad no ln c=>
  exact jg (GO ts pD.1 kp _ HP.o) HR.o
 | ok u0 dX=>
  refine kt (GO ts pD.1 kp _ HP.o) HR.o (ZK hX pD) ?_;clear pD;intro cc HR lg iz;go_wp2_with fail;refine OY cc ?_;clear cc;intro W1 HO HP;have cs:=GL [86,69,82,83,73,79,78] dX lg.1.pos kp _ HP.o;obtain⟨KF,gu,jb⟩:∃ KF:List aX→List aw→PR (List aX),R=(NU dX).bind KF∧KF=fun l0 ts=>(cj [66,85,95] ts).bind fun t ts=>(cj [58] ts).bind fun _ ts=>
   (jr ts.length [] ts).bind fun ns ts=>(dQ ts).bind fun _ ts=>(yN ts.length 0 (l0++[.aR ⟨t.line,t.ak,ns⟩]) ts).bind fun l ts=>
   (yO ts.length l ts).bind fun l ts=>Cu l ts:=⟨_,HR.o,rfl⟩
  have u5:=Qh gu;have jh:=Qh jb;clear gu jb;go_wp2_with fail;refine aQ cs ?_;intro W2 hb;refine lC (HO.o.trans (aA.of_below kp hb)) (HP.o.keep hb) (fun h=>@mY [86,69,82,83,73,79,78] dX h) (show NU dX=if dt [86,69,82,83,73,79,78] dX then (dJ 3 dX.tail).bind fun x aJ=>(dQ aJ).bind fun _ iU=>.ok [.bG ⟨(ax dX).line,(ax dX).ak,x.text⟩] iU else .ok [] dX from rfl) ?_;intro HO HP GM dv;have SE:=Qh (show cj [86,69,82,83,73,79,78] dX=if dt [86,69,82,83,73,79,78] dX then .ok (ax dX) dX.tail else iy dX from rfl);generalize dt [86,69,82,83,73,79,78] dX=SB at *;clear cs hb;go_upto_if 10 with fail
  go_cut [3] (fun x ws=>∃ (tz:List aw) (T:List (aX×Nat×Nat)),di tz∧R=KF (T.map Prod.fst) tz∧bH ws kp tz∧aA kp w ws∧aZ ws w.heap.size 98 qa 1 x T∧fK w.heap.size T ws.heap.size∧T.length≤1)
  case first=>
   cases SB
   ·have HV:=Qh (show R=KF (List.map Prod.fst ([]:List (aX×Nat×Nat))) dX by rw[u5.o,dv.o];rfl);go_wp2_with fail;go_meet
    case rel=>exact⟨dX,[],lg,HV.o,HP.o,HO.o,aZ.nil _ _ _ _ _,.nil HO.o.size,aB⟩
   ·have HV:=Qh (show R=((dJ 3 dX.tail).bind fun x aJ=>(dQ aJ).bind fun _ iU=>PR.ok [aX.bG ⟨(ax dX).line,(ax dX).ak,x.text⟩] iU).bind KF by rw[u5.o,dv.o];rfl);have cm:=iT [86,69,82,83,73,79,78] dX lg.1 kp _ HP.o;rw[show cj [86,69,82,83,73,79,78] dX=.ok (ax dX) dX.tail from SE.o]at cm;unfold fN eG bZ at cm;have lh:=lg.tail (GM.o rfl);go_wp2_with fail;refine dF cm ?_;intro W3 ho hp;have HO:=Qh (HO.o.trans ho);have HP:=Qh hp;have arb:=HO.o.size;clear cm ho hp;generalize (ax dX).line=L at *;generalize (ax dX).ak=C at *;generalize dX.tail=ki at *;have hb1:Below W3.heap.size W3 (W3.alloc (.cells #[.int .i64 L,.int .i64 C] 24)):=(aC _ _).alloc af _;go_upto_region 5 with (refine eX (Z:=#[.int .i64 0,.int .i64 0]) (cs:=#[.int .i64 L,.int .i64 C]) 24 (.tmp 4) (.tmp 13) aq9 rfl uz ?_)
    have nb:=ai.new W3 #[.int .i64 L,.int .i64 C] 24;have HO:=Qh (HO.o.trans (aA.of_below kp hb1));have HP:=Qh (HP.o.keep hb1);have hup:=underlying24;clear hb1;have avv:kp < W3.heap.size:=iH dG arb;generalize hkv:W3.heap.size=kv at *;generalize W3.alloc (.cells #[.int .i64 L,.int .i64 C] 24)=W4 at *;have pP:=Qh (HO.o.trans (aA.of_below kp (aC W4.heap.size W4).drew));have tY:=Qh (HP.o.keep (aC W4.heap.size W4).drew);have cn:=wF 3 ki lh.1 kp W4.drew tY.o;have O9:ai W4.drew kv #[.int .i64 L,.int .i64 C]:=nb;cases hX:dJ 3 ki with
    | bad no ln c=>
     rw[hX]at cn;unfold fN at cn;have dv:=Qh (show R=.bad no ln c by rw[HV.o,hX];rfl);clear hX;refine abK ?_;intro hHeld;refine oA 0 (v:=?_) rfl aj aj aj (fun _ _ _ h=>h) ot ?_ ?_;rotate_left
     ·exact yZ
     refine aL ?_
     refine oA 1 (v:=?_) rfl aj aj aj (fun _ _ _ h=>h) ot ?_ ?_;rotate_left
     ·exact yZ
     refine aL ?_
     refine oA 2 (v:=?_) rfl aj aj aj (fun _ _ _ h=>h) ot ?_ ?_;rotate_left
     ·exact yZ
     refine Lo ?_;intro K hK
     exact UB cn
    | ok x dD=>
     rw[hX]at cn;unfold fN eG bZ at cn;have hv2:R=((dQ dD).bind fun _ iU=>PR.ok [aX.bG ⟨L,C,x.text⟩] iU).bind KF:=(by rw[HV.o,hX];rfl);have lR:=Qh hv2;obtain⟨h3B,-⟩:=GY _ _ _ _ hX lh;clear hX hv2;refine abK ?_;intro hHeld;refine oA 0 (v:=?_) rfl aj aj aj (fun _ _ _ h=>h) ot ?_ ?_;rotate_left
     ·exact yZ
     refine aL ?_
     refine oA 1 (v:=?_) rfl aj aj aj (fun _ _ _ h=>h) ot ?_ ?_;rotate_left
     ·exact yZ
     refine aL ?_
     refine oA 2 (v:=?_) rfl aj aj aj (fun _ _ _ h=>h) ot ?_ ?_;rotate_left
     ·exact yZ
     refine Lo ?_;intro K hK
     go_simp;refine dF cn ?_;intro pH ho hp;have arc:=Qh (pP.o.trans ho);have ard:=Qh hp;have ag7:kv < W4.drew.heap.size:=O9.lt;have ZL:ai pH kv #[.int .i64 L,.int .i64 C]:=by
      obtain⟨T9,h9⟩:=O9;exact⟨T9,(ho.block kv ag7 cO).trans h9⟩
     have hb5:Below pH.heap.size pH (pH.alloc (.cells #[.iface 26 (.agg #[.int .i64 L,.int .i64 C,.string ⟨x.text.toArray⟩])] 98)):=(aC _ _).alloc af _;clear ho hp cn ag7;clear hHeld;refine hK.o _ _ ?_ (fun hHeld=>?_)
     ·exact⟨ZL.cell 0 _ rfl,ZL.cell 1 _ rfl⟩
     clear hK K;refine aL ?_
     refine oA 4 (v:=?_) rfl aj aj aj (fun _ _ _ h=>h) ot ?_ ?_;rotate_left
     ·exact yZ
     refine aL ?_
     refine oA 5 (v:=?_) rfl aj aj aj (fun _ _ _ h=>h) ot ?_ ?_;rotate_left
     ·exact yZ
     refine aL ?_
     refine oA 6 (v:=?_) rfl aj aj aj (fun _ _ _ h=>h) ot ?_ ?_;rotate_left
     ·exact yZ
     refine Lm ?_;intro K hK
     go_simp;have ZM:=ZL.keep hb5 af;clear hHeld;refine hK.o _ _ ?_ (fun hHeld=>?_)
     ·exact⟨ZM.cell 0 _ rfl,ZM.cell 1 _ rfl⟩
     clear hK K;refine aL ?_
     refine jS 8 rfl aj (fun K hK=>?_);have ag8:=dK pH (.cells #[.iface 26 (.agg #[.int .i64 L,.int .i64 C,.string ⟨x.text.toArray⟩])] 98);have S0:=Qh (arc.o.trans (aA.of_below kp hb5));have ZH:=Qh (ard.o.keep hb5);have ag9:w.heap.size≤(pH.alloc (.cells #[.iface 26 (.agg #[.int .i64 L,.int .i64 C,.string ⟨x.text.toArray⟩])] 98)).heap.size:=S0.o.size;clear hb5;generalize pH.alloc (.cells #[.iface 26 (.agg #[.int .i64 L,.int .i64 C,.string ⟨x.text.toArray⟩])] 98)=Cy at *;refine Q4 nZ S6 [] (aX.bG ⟨L,C,x.text⟩,w.heap.size,w.heap.size) (g:=pH.heap.size) (cells:=#[.iface 26 (.agg #[.int .i64 L,.int .i64 C,.string ⟨x.text.toArray⟩])]) (aZ.nil _ w.heap.size _ _ _) (aC w.heap.size Cy) ag9 aB ag8 rfl rfl uz (tZ ah ah ah) ?_;rintro v5 S5 fP bR fD -;refine aY (aA.low S0.o bR) (bH.low ZH.o dG bR) fP ?_;intro gJ jE sJ;have aha:ai S5 kv #[.int .i64 L,.int .i64 C]:=by
      obtain⟨T9,h9⟩:=ZM;exact⟨T9,(fD.block kv (gE h9) (by simp[Value.ownBlock])).trans h9⟩
     clear fP bR fD ag8 ag9;clear hHeld;refine hK.o _ _ ?_ (fun hHeld=>?_)
     ·exact⟨aha.cell 0 _ rfl,aha.cell 1 _ rfl⟩
     clear hK K;refine aL ?_
     refine oA 9 (v:=?_) rfl aj aj aj (fun _ _ _ h=>h) ot ?_ ?_;rotate_left
     ·exact yZ
     refine wS ?_
     have cc:=GO dD h3B.1 kp _ jE.o;cases hY:dQ dD with
     | bad no ln c=>
      rw[hY]at cc;unfold fN at cc;have dv:=Qh (show R=.bad no ln c by rw[lR.o,hY];rfl);clear hY;go_wp2_with fail;refine aQ cc ?_;intro W9 ho;have qR:=Qh (gJ.o.trans ho);clear cc ho;exact K6
     | ok y AB=>
      rw[hY]at cc;unfold fN at cc;have hv3:R=KF [aX.bG ⟨L,C,x.text⟩] AB:=(by rw[lR.o,hY];rfl);have wH:=Qh hv3;obtain⟨h4B,-⟩:=EA _ _ _ hY h3B;clear hY hv3;go_wp2_with fail;refine dF cc ?_;intro W9 ho hp;have qR:=Qh (gJ.o.trans ho);have NY:=Qh hp;have NZ:=Qh (aZ.only sJ.o jE.o ho ah (tZ ah ah ah));have avw:S5.heap.size≤W9.heap.size:=ho.size;clear cc ho hp;go_wp2_with fail;go_meet
      case rel=>exact⟨AB,[(aX.bG ⟨L,C,x.text⟩,w.heap.size,w.heap.size)],h4B,wH.o,NY.o,qR.o,NZ.o,(fK.cons (x:=aX.bG ⟨L,C,x.text⟩) af af (.nil qR.o.size)),aB⟩
  case rest=>
  obtain⟨ZN,T0,S7,S8,G0,tR,hown,hch,G1⟩:=hcut;rw[jh.o]at S8;dsimp only at S8;have HR:=Qh S8;clear S8 GM dv SE u5 jh KF;refine fx G0 tR hown hch ?_;clear G0 tR hown hch;intro HP HO OW rH;obtain⟨xa,xc,rfl,-⟩:=OW.o.shape;cases hX:cj [66,85,95] ZN with
  | bad no ln c=>
   exact jg (iT [66,85,95] ZN S7.1 kp _ HP.o) HR.o
  | ok t ZO=>
   have cc:=iT [66,85,95] ZN S7.1 kp _ HP.o;refine K9 HR.o (qg hX S7) ?_;clear S7;intro cc HR S9 iz;go_wp2_with fail;refine dF cc ?_;intro X1 ho hp;clear cc;refine fx (aZ.only OW.o HP.o ho ah (tZ ah ah ah)) (rH.o.mono (ho).size) (HO.o.trans ho) hp ?_;clear ho hp;intro OW rH HO HP;obtain⟨C0,jJ⟩:∃ C,C=(⟨t.line,t.ak,[]⟩:fH).cells (.slice none 0 0):=⟨_,rfl⟩
   have oX:=Qh jJ;have sX:C0.size=3:=Fk;have uY:C0.all (·.oneCell')=true:=(by rw[jJ];exact fH.cells_one _ _ _ _);clear jJ;go_upto_region 8 with (refine eX (Z:=tI) (cs:=C0) 29 (.tmp 5) (.tmp 28) (by rw[sX];exact adO) Fl uY ?_ (hy:=Fj))
   have cH:Below X1.heap.size X1 (X1.alloc (.cells C0 29)):=(aC _ _).alloc af _;have gO:w.heap.size≤X1.heap.size:=HO.o.size;have sK:kp < X1.heap.size:=ae;have HC:=Qh (show(X1.alloc (.cells C0 29)).heap[X1.heap.size]? = some (.cells ((⟨t.line,t.ak,[]⟩:fH).cells (.slice none 0 0)) 29)by rw[← oX.o];exact dK X1 _);have G2:=OW;have iF:=HP;have sP:=HO;refine aY (HO.o.trans (aA.of_below kp cH)) (HP.o.keep cH) (aA.of_below kp cH) ?_;intro HO HP fM;clear cH;generalize ij:X1.heap.size=km at *;have HKK:=Qh ij;clear ij;generalize X1.alloc (.cells C0 29)=X2 at *;cases hX:cj [58] ZO with
   | bad no ln c=>
    exact jg (iT [58] ZO S9.1 kp _ HP.o) HR.o
   | ok avx Ta=>
    refine kt (iT [58] ZO S9.1 kp _ HP.o) HR.o (qg hX S9) ?_;clear S9;intro cc HR ahb iz;go_wp2_with fail;refine dF cc ?_;intro X3 ho hp;clear cc;refine fx (eJ HC.o ae ho) (fM.o.trans ho) (HO.o.trans ho) hp ?_;clear ho hp;intro HC fM HO HP;obtain⟨KF,gu,jb⟩:∃ KF:List (List UInt8)→List aw→PR (List aX),R=(jr Ta.length [] Ta).bind KF∧KF=fun ns ts=>(dQ ts).bind fun _ ts=>(yN ts.length 0 (T0.map Prod.fst++[.aR ⟨t.line,t.ak,ns⟩]) ts).bind fun l ts=>(yO ts.length l ts).bind fun l ts=>Cu l ts:=⟨_,HR.o,rfl⟩
    have u5:=Qh gu;have jh:=Qh jb;clear gu jb HR;go_wp2_with fail;go_loopw [] (fun wr=>∃ (l:List (List UInt8)) (v:Value) (tz:List aw) (g:Nat),di tz∧tz.length≤g∧l.length+tz.length≤4000000∧R=(jr g l tz).bind KF∧bH wr kp tz∧aA kp X1 wr∧wr.heap[km]? = some (.cells ((⟨t.line,t.ak,[]⟩:fH).cells (v)) 29)∧aG wr km 9 1 dr v l) (fun wr=>AA wr kp)
    case atStart=>exact⟨[],_,Ta,Ta.length,ahb,af,by have:=ahb.2.2;simpa using this,u5.o,HP.o,fM.o,HC.o,aG.nil _ _ _ _ _⟩
    case round=>
     obtain⟨l,v,tz,g,jc,hg,Kp,qK,kj,qL,yJ,hown⟩:=hrel;have bm:=jc.1.pos;obtain⟨g',rfl⟩:∃ g',g=g' + 1:=⟨g - 1,ae⟩
     have cm:=agN tz bm kp wr kj;have mJ:=Qh (show R=(if p8 tz then (ee tz).bind fun nm aJ=>jr g' (l++[nm]) aJ else .ok l tz:PR (List (List UInt8))).bind KF from qK);clear qK;generalize p8 tz=SB at *;have u6:=Qh qL;clear qL;refine fx yJ hown kj (bH.cnt kj) ?_;clear kj yJ hown;intro AE kn yP wI;obtain⟨av,cv,rfl,-⟩:=kn.o.shape;go_wp2_with fail;refine aQ cm ?_;intro eh hb;clear cm;refine fx (u6.o.trans (aA.of_below kp hb)) (yP.o.keep hb) (bF AE.o hb) (kn.o.keep hb af) ?_;clear hb;intro jU kQ nu jo;cases SB
     case true=>
      have HV:=Qh (show R=((ee tz).bind fun nm aJ=>jr g' (l++[nm]) aJ).bind KF from mJ.o);have c2:=ai.cell ⟨_,nu.o⟩ 2 (.slice av l.length cv) rfl;have r2:=ai.free ⟨_,nu.o⟩ 2;have pP:=Qh (jU.o.trans (aA.of_below kp (aC eh.heap.size eh).drew));have tY:=Qh (kQ.o.keep (aC eh.heap.size eh).drew);have cn:=wG tz jc.1 (bQ jc.head ah) kp eh.drew tY.o;cases hX:ee tz with
      | bad no ln c=>
       rw[hX]at cn;unfold fN at cn;have dv:=Qh (show R=.bad no ln c by rw[HV.o,hX];rfl);clear hX;go_wp2_with fail;refine wX 7 (fun (w':World)=>w'.cell? ⟨km,2,none⟩=some (.slice av l.length cv)) aj c2 (fun hHeld=>?_);refine hL 0 ?_;refine aL ?_
       refine hL 1 ?_;refine aL ?_
       refine hL 2 ?_;refine zg ?_;intro K hK
       go_simp;refine aQ cn ?_;intro dR ho;have qR:=Qh ((sP.o.trans pP.o).trans ho);clear ho cn;dsimp only;exact K6
      | ok nm sI=>
       rw[hX]at cn;unfold fN at cn;have hr:=HV.o;rw[hX,PR.ku]at hr;have dv:=Qh hr;obtain⟨rG,Kv⟩:=tX _ _ _ hX jc;clear hr hX;go_wp2_with fail;refine wX 7 (fun (w':World)=>w'.cell? ⟨km,2,none⟩=some (.slice av l.length cv)) aj c2 (fun hHeld=>?_);refine hL 0 ?_;refine aL ?_
       refine hL 1 ?_;refine aL ?_
       refine hL 2 ?_;refine zg ?_;intro K hK
       go_simp;refine dF cn ?_;intro dR ho hp;have qM:=Qh (eJ (W:=eh.drew) nu.o ae ho);refine fQ (pP.o.trans ho) hp (aG.only (W:=eh.drew) (jo.o.keep (aC eh.heap.size eh).drew af) sK ho) (ai.cell ⟨_,qM.o⟩ 2 (.slice av l.length cv) rfl) ?_;intro wK yK yL ZP;have hb5:Below dR.heap.size dR (dR.alloc (.cells #[.string ⟨nm.toArray⟩] 9)):=(aC _ _).alloc af _;clear cn ho hp;clear hHeld;refine hK.o _ _ ?_ (fun hHeld=>?_)
       ·exact ZP
       clear hK K;refine zh ?_;intro K hK
       go_simp;clear hHeld;refine hK.o _ _ ?_ (fun hHeld=>?_)
       ·exact dx ZP hb5
       clear hK K;refine CU ?_;intro K hK
       have tW:=Qh (bF qM.o hb5);refine fQ (wK.o.trans (aA.of_below kp hb5)) (yK.o.keep hb5) (yL.o.keep hb5 af) (dK dR (.cells #[.string ⟨nm.toArray⟩] 9)) ?_;intro pE vd lV oO;have oP:km≤(dR.alloc (.cells #[.string ⟨nm.toArray⟩] 9)).heap.size:=by
        have:=(gE tW.o)
        omega
       clear hb5;generalize dR.alloc (.cells #[.string ⟨nm.toArray⟩] 9)=wL at *;refine FH (en:=dr) xJ l nm (g:=dR.heap.size) lV.o (aC km wL) oP ae oO ?_ (hone:=Bd);refine AU ?_;intro v5 w5 fP bR fD a5 n5 c5 mG
       subst mG;refine aY (jQ tW.o lV.o ah fD) (aA.low pE.o (bR.mono (Nat.le_of_eq HKK.o))) (bH.low vd.o sK bR) ?_;intro fF iV pF;have kP:=ai.cell ⟨_,fF.o⟩ 2 (.slice av l.length cv) rfl;have qH:=ai.free ⟨_,fF.o⟩ 2;clear bR fD oO oP;clear hHeld;refine hK.o _ _ ?_ (fun hHeld=>?_)
       ·exact kP
       clear hK K;refine aL ?_
       refine hL 6 ?_;refine EX ?_;intro K hK
       go_simp;refine hK.o _ _ ?_;clear hK K;refine H5 ?_
       refine aY (bJ fF.o 2 (.slice a5 n5 c5)) (aA.new iV.o km (Nat.le_of_eq HKK.o) 2 (.slice a5 n5 c5)) (bH.set pF.o sK 2 (.slice a5 n5 c5)) ?_;intro eU gJ jE;have sJ:=Qh (fP.dn ah fF.o (fun b _ hne=>dN _ ⟨km,2,none⟩ (.slice a5 n5 c5) b hne));have GX:=Qh (bH.cnt jE.o);clear fP kP qH c2 r2 ZP;go_wp2_with fail;go_roundw;case rel=>exact⟨l++[nm],_,sI,g',rG,ae,sT,dv.o,jE.o,gJ.o,eU.o,sJ.o⟩
       case measure=>rw[GX.o,wI.o];omega
     case false=>
      have eT:R=KF l tz:=mJ.o;rw[jh.o]at eT;dsimp only at eT;have HR:=Qh eT;clear eT;have Tb:=jc;have HO:=Qh (sP.o.trans jU.o);have HP:=kQ;have HXe:=Qh (aZ.only G2.o iF.o jU.o ah (tZ ah ah ah));have arf:km≤eh.heap.size:=(by have:=(gE nu.o);omega);have arh:w.heap.size≤eh.heap.size:=HO.o.size;obtain⟨CC,fB⟩:∃ C,C=(⟨t.line,t.ak,l⟩:fH).cells (.slice av l.length cv):=⟨_,rfl⟩
      have hce:eh.heap[km]? = some (.cells CC 29):=(by rw[fB];exact nu.o);have oW:CC.size=3:=(by rw[fB];rfl);have hfn:qa eh (aX.aR ⟨t.line,t.ak,l⟩,km,eh.heap.size) (#[Value.iface 29 (.agg CC)]:Array Value).toList:=⟨CC,rfl,.slice av l.length cv,by rw[fB],jo.o,fun k hk=>(jo.o.lt k hk).2⟩
      have ari:=rH;have Sc:=Qh hfn;have lU:ai eh km CC:=⟨_,hce⟩
      have iP:=underlying29;clear hce fB hfn;go_wp2_with (first|(refine fG lU 29 (.tmp 5) iP (by rw[oW];exact U8) ?_)|(at_builtin;go_loud (refine xW nZ S6 T0 (aX.aR ⟨t.line,t.ak,l⟩,km,eh.heap.size) HXe.o (aC w.heap.size eh) arh ae Sc.o rfl uz (tZ ah ah ah) ?_)))
      rintro v5 SZ fP hb5 fD;refine lC ((ari.o.snoc (aX.aR ⟨t.line,t.ak,l⟩) af arf).mono fD.size) (aA.low HO.o hb5) (bH.low HP.o dG hb5) fP ?_;intro rH HO HP OW;have Jz:(T0++[(aX.aR ⟨t.line,t.ak,l⟩,km,eh.heap.size)]).length≤2:=Px;have HR:=Qh (show R=(dQ tz).bind fun _ ts=>(yN ts.length 0 ((T0++[(aX.aR ⟨t.line,t.ak,l⟩,km,eh.heap.size)]).map Prod.fst) ts).bind fun l ts=>(yO ts.length l ts).bind fun l ts=>Cu l ts by rw[vO];exact HR.o);clear fP hb5 fD lU;generalize T0++[(aX.aR ⟨t.line,t.ak,l⟩,km,eh.heap.size)]=T1 at *;obtain⟨ya,yc,rfl,-⟩:=OW.o.shape;cases hX:dQ tz with
      | bad no ln c=>
       exact jg (GO tz Tb.1 kp _ HP.o) HR.o
      | ok u1 Tc=>
       refine kt (GO tz Tb.1 kp _ HP.o) HR.o (ZK hX Tb) ?_;clear Tb;intro cc HR arj iz;go_wp2_with fail;refine dF cc ?_;intro X5 ho hp;clear cc;refine fx (aZ.only OW.o HP.o ho ah (tZ ah ah ah)) (rH.o.mono (ho).size) (HO.o.trans ho) hp ?_;clear ho hp;intro OW rH HO HP;obtain⟨KG,gu,hKG⟩:∃ KG:List aX→List aw→PR (List aX),R=(yN Tc.length 0 (T1.map Prod.fst) Tc).bind KG∧KG=fun l ts=>(yO ts.length l ts).bind fun l ts=>Cu l ts:=⟨_,HR.o,rfl⟩
       have u5:=Qh gu;have HKG:=Qh hKG;clear gu hKG HR mJ;go_wp2_with fail;go_loopw [3,6] (fun lv nv wr=>∃ (T:List (aX×Nat×Nat)) (tz:List aw) (g n:Nat),nv=.int .i64 (n:Nat)∧n≤512∧di tz∧tz.length≤g∧T.length≤n+2∧R=(yN g n (T.map Prod.fst) tz).bind KG∧bH wr kp tz∧aA kp w wr∧aZ wr w.heap.size 98 qa 1 lv T∧fK w.heap.size T wr.heap.size) (fun _ _ wr=>AA wr kp)
       case atStart=>exact⟨T1,Tc,Tc.length,0,rfl,ah,arj,af,Jz,u5.o,HP.o,HO.o,OW.o,rH.o⟩
       case round=>
        obtain⟨T,tz,g,n,rfl,hn,jc,hg,hT,qK,kj,qL,hown,hch⟩:=hrel;have bm:=jc.1.pos;obtain⟨g',rfl⟩:∃ g',g=g' + 1:=⟨g - 1,ae⟩
        have cm:=GL [66,79,95] tz bm kp wr kj;have mJ:=Qh (show R=(if dt [66,79,95] tz then (if n=512 then eY 5 tz else (my tz).bind fun m aJ=>(dQ aJ).bind fun _ iU=>yN g' (n+1) (T.map Prod.fst++[.msg m]) iU) else .ok (T.map Prod.fst) tz:PR (List aX)).bind KG from qK);clear qK;generalize dt [66,79,95] tz=SB at *;have yP:=Qh kj;refine fx qL hown hch (bH.cnt kj) ?_;clear kj qL hown hch;intro u6 kn rH wI;obtain⟨av,cv,rfl,-⟩:=kn.o.shape;go_wp2_with fail;refine aQ cm ?_;intro Td hb;clear cm;refine fx (u6.o.trans (aA.of_below kp hb)) (yP.o.keep hb) (kn.o.keep nZ hb) (rH.o.mono hb.size) ?_;clear hb;intro jU kQ jo Cv;cases SB
        case true=>
         by_cases EB:n=512
         ·have eT:R=.bad 5 (ax tz).line (ax tz).ak:=by
           rw[mJ.o,if_pos rfl,if_pos EB];rfl
          have HV:=Qh eT;clear eT;have cw:=GK 5 tz bm kp _ kQ.o;subst EB;go_wp2_with fail;refine aQ cw ?_;intro G3 hb;clear cw;exact Hu (jU.o.trans (aA.of_below kp hb))
         ·have eT:R=((my tz).bind fun m aJ=>(dQ aJ).bind fun _ iU=>yN g' (n+1) (T.map Prod.fst++[.msg m]) iU).bind KG:=by
           rw[mJ.o,if_pos rfl,if_neg EB]
          have HV:=Qh eT;clear eT;have avy:((n:Int) == 512)=false:=bN ae;have cn:=aqX tz jc kp Td kQ.o (fun W hW=>HL.o W (jU.o.trans hW));cases hX:my tz with
          | bad no ln c=>
           rw[hX]at cn;unfold Zs at cn;have hr:=HV.o;exact abR cn
          | ok m sI=>
           rw[hX]at cn;unfold Zs at cn;have hr:=HV.o;rw[hX,PR.ku]at hr;have dv:=Qh hr;obtain⟨rG,Kv⟩:=Zr _ _ _ hX jc;clear hr hX;go_wp2_with fail;refine aI cn ?_;rintro e G3 ⟨C6,rfl,dP,ho,hp⟩;have fM:=Qh (jU.o.trans ho);have iF:=Qh hp;have G2:=Qh (aZ.only jo.o kQ.o ho ah (tZ ah ah ah));have hs1:w.heap.size≤G3.heap.size:=fM.o.size;have N0:=Qh (Cv.o.snoc (aX.msg m) af ho.size);have wZ:=Qh (show qa G3 (aX.msg m,Td.heap.size,G3.heap.size) (#[Value.iface 39 (.agg C6)]:Array Value).toList from ⟨C6,rfl,dP⟩);clear cn ho hp dP;go_wp2_with (at_builtin;go_loud (refine xW nZ S6 T (aX.msg m,Td.heap.size,G3.heap.size) G2.o (aC w.heap.size G3) hs1 ae wZ.o rfl uz (tZ ah ah ah) ?_))
           rintro v5 W62 fP hb5 fD;refine lC (N0.o.mono fD.size) (aA.low fM.o hb5) (bH.low iF.o dG hb5) fP ?_;intro ZQ aU bw N1;have cc:=GO sI rG.1 kp _ bw.o;obtain⟨a5,n5,c5,mG⟩:∃ a n c,v5=.slice a n c:=by obtain⟨a5,c5,e,-⟩:=N1.o.shape;exact⟨_,_,_,e⟩
           subst mG;clear fP hb5 fD;cases hY:dQ sI with
           | bad no ln c=>
            exact abq dv.o
           | ok uu ZR=>
            rw[hY]at cc;unfold fN at cc;have hr:=dv.o;rw[hY,PR.ku]at hr;have ZS:=Qh hr;obtain⟨ZT,hvl⟩:=EA _ _ _ hY rG;clear hr hY;go_wp2_with fail;refine dF cc ?_;intro W69 ho hp;have qR:=Qh (aU.o.trans ho);have NY:=Qh hp;refine aY (aZ.only N1.o bw.o ho ah (tZ ah ah ah)) (ZQ.o.mono ho.size) (bH.cnt hp) ?_;intro NZ ZU ZV;clear cc ho hp;go_wp2_with fail;go_roundw;case rel=>exact⟨T++[(aX.msg m,Td.heap.size,G3.heap.size)],ZR,g',n+1,bL,ae,ZT,ae,sT,by rw[vO];exact ZS.o,NY.o,qR.o,NZ.o,ZU.o⟩
            case measure=>rw[ZV.o,wI.o];omega
        case false=>
         have eT:R=KG (T.map Prod.fst) tz:=mJ.o;rw[HKG.o]at eT;dsimp only at eT;have HR:=Qh eT;have hTb:T.length≤514:=ae;have ark:=jc.2.2;clear eT mJ;go_wp2_with fail;go_loopw [3] (fun lv wr=>∃ (T:List (aX×Nat×Nat)) (tz:List aw) (g:Nat),di tz∧tz.length≤g∧T.length+tz.length≤4001000∧R=((yO g (T.map Prod.fst) tz).bind fun l ts=>Cu l ts)∧bH wr kp tz∧aA kp w wr∧aZ wr w.heap.size 98 qa 1 lv T∧fK w.heap.size T wr.heap.size) (fun _ wr=>AA wr kp)
         case atStart=>exact⟨T,tz,tz.length,jc,af,ae,HR.o,kQ.o,jU.o,jo.o,Cv.o⟩
         case round=>
          clear yP u6 kn rH wI jU kQ jo Cv HR bm hT hTb ark;obtain⟨T,tz,g,jc,hg,hT,qK,kj,qL,hown,hch⟩:=hrel;have bm:=jc.1.pos;obtain⟨g',rfl⟩:∃ g',g=g' + 1:=⟨g - 1,ae⟩
          have cm:=GL [86,65,76,95] tz bm kp wr kj;have mJ:=Qh (show R=(if dt [86,65,76,95] tz then (mC tz).bind fun m aJ=>(dQ aJ).bind fun _ iU=>yO g' (T.map Prod.fst++[.tab m]) iU else .ok (T.map Prod.fst) tz:PR (List aX)).bind fun l ts=>Cu l ts from qK);clear qK;generalize dt [86,65,76,95] tz=SB at *;have yP:=Qh kj;refine fx qL hown hch (bH.cnt kj) ?_;clear kj qL hown hch;intro u6 kn rH wI;obtain⟨av,cv,rfl,-⟩:=kn.o.shape;go_wp2_with fail;refine aQ cm ?_;intro Te hb;clear cm;refine fx (u6.o.trans (aA.of_below kp hb)) (yP.o.keep hb) (kn.o.keep nZ hb) (rH.o.mono hb.size) ?_;clear hb;intro jU kQ jo Cv;cases SB
          case true=>
           have HV:=Qh (show R=((mC tz).bind fun m aJ=>(dQ aJ).bind fun _ iU=>yO g' (T.map Prod.fst++[.tab m]) iU).bind fun l ts=>Cu l ts from mJ.o);clear mJ;have cn:=aq4 tz jc kp Te kQ.o (fun W hW=>HL.o W (jU.o.trans hW));cases hX:mC tz with
           | bad no ln c=>
            rw[hX]at cn;unfold Zx at cn;have hr:=HV.o;exact abR cn
           | ok m sI=>
            rw[hX]at cn;unfold Zx at cn;have hr:=HV.o;rw[hX,PR.ku]at hr;have dv:=Qh hr;obtain⟨rG,Kv⟩:=ag1 _ _ _ hX jc;clear hr hX;go_wp2_with fail;refine aI cn ?_;rintro e G9 ⟨C6,rfl,dP,ho,hp⟩;have fM:=Qh (jU.o.trans ho);have iF:=Qh hp;have G2:=Qh (aZ.only jo.o kQ.o ho ah (tZ ah ah ah));have hs1:w.heap.size≤G9.heap.size:=fM.o.size;have N0:=Qh (Cv.o.snoc (aX.tab m) af ho.size);have wZ:=Qh (show qa G9 (aX.tab m,Te.heap.size,G9.heap.size) (#[Value.iface 43 (.agg C6)]:Array Value).toList from ⟨C6,rfl,dP⟩);clear cn ho hp dP;go_wp2_with (at_builtin;go_loud (refine xW nZ S6 T (aX.tab m,Te.heap.size,G9.heap.size) G2.o (aC w.heap.size G9) hs1 ae wZ.o rfl uz (tZ ah ah ah) ?_))
            rintro v5 W82 fP hb5 fD;refine lC (N0.o.mono fD.size) (aA.low fM.o hb5) (bH.low iF.o dG hb5) fP ?_;intro ZQ aU bw N1;have cc:=GO sI rG.1 kp _ bw.o;obtain⟨a5,n5,c5,mG⟩:∃ a n c,v5=.slice a n c:=by obtain⟨a5,c5,e,-⟩:=N1.o.shape;exact⟨_,_,_,e⟩
            subst mG;clear fP hb5 fD;cases hY:dQ sI with
            | bad no ln c=>
             exact abq dv.o
            | ok uu ZR=>
             rw[hY]at cc;unfold fN at cc;have hr:=dv.o;rw[hY,PR.ku]at hr;have ZS:=Qh hr;obtain⟨ZT,hvl⟩:=EA _ _ _ hY rG;clear hr hY;go_wp2_with fail;refine dF cc ?_;intro W89 ho hp;have qR:=Qh (aU.o.trans ho);have NY:=Qh hp;refine aY (aZ.only N1.o bw.o ho ah (tZ ah ah ah)) (ZQ.o.mono ho.size) (bH.cnt hp) ?_;intro NZ ZU ZV;clear cc ho hp;go_wp2_with fail;go_roundw;case rel=>exact⟨T++[(aX.tab m,Te.heap.size,G9.heap.size)],ZR,g',ZT,ae,sT,by rw[vO];exact ZS.o,NY.o,qR.o,NZ.o,ZU.o⟩
             case measure=>rw[ZV.o,wI.o];omega
          case false=>
           have HV:=Qh (show R=if (ax tz).kind=0 then .ok (T.map Prod.fst) tz else iy tz from mJ.o);have cw:=rF tz bm kp _ kQ.o;unfold eG bZ at cw;clear mJ;go_wp2_with fail;refine aQ cw ?_;intro G9 hb;clear cw;refine fx (jU.o.trans (aA.of_below kp hb)) (kQ.o.keep hb) (jo.o.keep nZ hb) (Cv.o.mono hb.size) ?_;clear hb;intro fM iF G2 N0;by_cases hk:(ax tz).kind=0
           ·have dv:=Qh (show R=.ok (T.map Prod.fst) tz by rw[HV.o,if_pos hk]);rw[hk];go_wp2_with fail;refine bB (v:=.slice av T.length cv) (by simp[results,results37]) rfl ?_;rw[dv.o];exact⟨_,T,rfl,G2.o,rfl,N0.o,fM.o⟩
           ·have dv:=Qh (show R=.bad (lM tz) (ax tz).line (ax tz).ak by rw[HV.o,if_neg hk];rfl);have e1:=bN hk;have cF:=Es tz bm kp _ iF.o;generalize (ax tz).kind=K at *;go_wp2_with fail;refine aQ cF ?_;intro W82 hb;clear cF;exact CO (fM.o.trans (aA.of_below kp hb))
end Go.Proofs.YtfflljgnpfldfaaGreatDoor
