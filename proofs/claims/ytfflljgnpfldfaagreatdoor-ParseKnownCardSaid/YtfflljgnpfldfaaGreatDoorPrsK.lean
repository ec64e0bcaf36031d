/-
  The parser's signal: contract.
-/
import Derived.Test.YtfflljgnpfldfaaGreatDoorFilM
set_option linter.all false
set_option maxHeartbeats 128000000
set_option maxRecDepth 100000
namespace Go.Proofs.YtfflljgnpfldfaaGreatDoor
open Go.Proofs.Tryz
open Go.RowKit Go.Shelf
theorem aA.agT {kp ks:Nat} {w w' w'':World} (h:aA kp w w') (h2:qo kp ks w' w'') (cz:w.heap.size≤ks):aA kp w w'':=
 ⟨h2.os.trans h.os,h2.tape.trans h.tape,h2.output.trans h.output,bQ h.size h2.size,fun k hk hne=>(h2.block k (iH hk h.size) Iq ae).trans (h.block k hk hne)⟩
def YR (kp:Nat) (w:World) (R:PR et) (e:Ending) (w':World):Prop:=match R with
 | .ok x ts=>∃ C:Array Value,e=.returned (.agg C)∧mW w.heap.size w' x C.toList∧aA kp w w'∧bH w' kp ts
 | .bad no l c=>e=.panicked [{ v:=eH no l c,recovered:=false }]∧aA kp w w'
theorem aA.low {kp:Nat} {w W w1:World} (h:aA kp w W) (hb:Below w.heap.size W w1):aA kp w w1:=
 ⟨hb.os.trans h.os,hb.tape.trans h.tape,hb.output.trans h.output,bQ h.size hb.size,fun k hk hne=>(hb.block k hk).trans (h.block k hk hne)⟩
theorem bH.low {kp B:Nat} {W w1:World} {ts:List aw} (h:bH W kp ts) (hk:kp < B) (hb:Below B W w1):bH w1 kp ts:=h.other fun b hb'=>hb.block b ae
theorem aG.only {α:Type} {W w1:World} {B kp:Nat} {e:TypeId} {size:Nat} {en:α→List Value} {v:Value} {xs:List α} (h:aG W B e size en v xs) (hk:kp < B) (ho:aA kp W w1):aG w1 B e size en v xs:=
 h.vo fun k pW=>ho.block k (h.lt k pW).2 (by have:=(h.lt k pW).1;simp;omega)
theorem eJ {kp k:Nat} {W w1:World} {C:Array Value} {T:TypeId} (h:W.heap[k]? = some (.cells C T)) (hk:k≠kp) (ho:aA kp W w1):w1.heap[k]? = some (.cells C T):=
 (ho.block k (gE h) zo).trans h
theorem Km (ts:List aw) (ed:pj ts) (hlen:(ax ts).text.length≤1048576) (kp:Nat) (w:World) (h:bH w kp ts) (hp:ng w) (hS:rB w) :
  Calls prog 143 #[.pointer (some ⟨kp,0,none⟩),.int .u64 2147483648] w fun e w'=>fN kp w (fun n=>.int .u64 (n:Nat)) (gQ 2147483648 ts) e w':=agP 2147483648 ah ts ed hlen kp w h hp hS
theorem SH (x y:UInt8):((x.toNat:Int) == (y.toNat:Nat))=(some x == some y):=by
 by_cases h:x=y
 ·subst h;simp
 ·have:x.toNat≠y.toNat:=fun e=>h (nK.1 e)
  have h2:(some x == some y)=false:=vK;rw[h2,gT];omega
theorem agU {l:List UInt8} (h:l.length=3):∃ a b c,l=[a,b,c]:=by
 match l,h with
 | [a,b,c],_=>exact⟨a,b,c,rfl⟩
theorem aqQ {ts aJ:List aw} {x:Int×Nat} (h:p9 ts=.ok x aJ):x=(0,0)∨x=(1,0)∨x.1=2:=by
 unfold p9 iy eY at h;split at h
 ·split at h
  ·cases h;exact .inr (.inl rfl)
  ·split at h
   ·cases h;exact .inr (.inr rfl)
   ·cases h
 ·cases h;exact .inl rfl
theorem aqR (d:dI) (v:Value) (x:Int×Nat) (h:x=(0,0)∨x=(1,0)∨x.1=2) (h1:d.role=0) (h2:d.branch=0):YM (d.cells v) x=({ d with role:=x.1,branch:=x.2 }:dI).cells v:=by
 obtain⟨a,b⟩:=x;obtain⟨⟩:=d;simp only at h1 h2;subst h1 h2;unfold YM;rcases h with h|h|h
 ·cases h;rfl
 ·cases h;rfl
 ·simp only at h;subst h;rfl
theorem aqS (ts:List aw) (ed:di ts) (kp:Nat) (w:World) (h:bH w kp ts) (yG:∀ W,aA kp w W→ng W∧rB W) :
  Calls prog 144 #[.pointer (some ⟨kp,0,none⟩)] w fun e w'=>YR kp w (nc ts) e w':=by
 obtain⟨R,hR⟩:∃ R,R=nc ts:=⟨_,rfl⟩
 rw[← hR];unfold nc at hR;have HR:=Qh hR;clear hR;have dG:=h.lt;have HL:=Qh yG;have hb0:Below w.heap.size w (w.alloc (.cells kL 63)):=(aC _ _).alloc af _;refine fQ (aA.of_below kp hb0) (h.keep hb0) (dK w (.cells kL 63)) pC ?_;intro HO HP HZ hf0;have jk:=tU;have hf2:=yF;clear hb0 h yG;go_enter func144,ntmps144
 have pD:=ed;cases hX:cj [83,71,95] ts with
 | bad no l c=>
  exact jg (iT [83,71,95] ts pD.1 kp _ HP.o) HR.o
 | ok t dX=>
  have cc:=iT [83,71,95] ts pD.1 kp _ HP.o;refine K9 HR.o (qg hX pD) ?_;clear pD;intro cc HR lg iz;go_wp2_with fail;refine dF cc ?_;intro W1 ho hp;refine aY ((ho.block _ (gE HZ.o) cO).trans HZ.o) (HO.o.trans ho) hp ?_;intro HZ HO HP;clear cc ho hp;cases hX:ee dX with
  | bad no l c=>
   exact jg (wG dX lg.1 (bQ lg.head ah) kp _ HP.o) HR.o
  | ok nm ki=>
   refine kt (wG dX lg.1 (bQ lg.head ah) kp _ HP.o) HR.o (Kl hX lg) ?_;clear lg;intro cc HR oM iz;go_wp2_with fail;refine dF cc ?_;intro W2 ho hp;refine aY ((ho.block _ (gE HZ.o) cO).trans HZ.o) (HO.o.trans ho) hp ?_;intro HZ HO HP;clear cc ho hp;obtain⟨C0,jJ⟩:∃ C,C=(⟨t.line,t.ak,nm,0,0,0,0,false,false,0,0,0,0,0,0,0,0,[]⟩:dI).cells (.slice none 0 0):=⟨_,rfl⟩
   have oX:=Qh jJ;have sX:C0.size=19:=Fk;have uY:C0.all (·.oneCell')=true:=(by rw[jJ];exact dI.cells_one _ _ _ _);clear jJ;go_upto_region 2 with (refine eX (Z:=kL) (cs:=C0) 63 (.tmp 3) (.tmp 10) (by rw[sX];exact Jc) Fl uY ?_ (hy:=Fj))
   have cH:Below W2.heap.size W2 (W2.alloc (.cells C0 63)):=(aC _ _).alloc af _;have Kn:w.heap.size < W2.heap.size:=(gE HZ.o)
   have cz:w.heap.size≤W2.heap.size:=gV Kn;have dL:kp < W2.heap.size:=ae;have HC:=Qh (show(W2.alloc (.cells C0 63)).heap[W2.heap.size]? = some (.cells ((⟨t.line,t.ak,nm,0,0,0,0,false,false,0,0,0,0,0,0,0,0,[]⟩:dI).cells (.slice none 0 0)) 63)by rw[← oX.o];exact dK W2 _);refine aY (bF HZ.o cH) (HO.o.trans (aA.of_below kp cH)) (HP.o.keep cH) ?_;intro HZ HO HP;clear cH;generalize ij:W2.heap.size=ks at *;generalize W2.alloc (.cells C0 63)=W3 at *;cases hX:p9 ki with
   | bad no l c=>
    have cc:=agQ ki oM.1 oM.head kp ks dL _ 0 0 rfl rfl _ HP.o HC.o (HL.o _ HO.o).1 (HL.o _ HO.o).2;rw[hX]at cc;unfold YN at cc;have hr:=HR.o;rw[hX,PR.ug]at hr;have dv:=Qh hr;clear hr;go_wp2_with fail;refine aQ cc ?_;intro w9 ho;have qR:=Qh (aA.agT HO.o ho cz);clear ho cc;exact K6
   | ok rb dD=>
    have cc:=agQ ki oM.1 oM.head kp ks dL _ 0 0 rfl rfl _ HP.o HC.o (HL.o _ HO.o).1 (HL.o _ HO.o).2;rw[hX]at cc;unfold YN at cc;have hr:=HR.o;rw[hX,PR.ku]at hr;have HR:=Qh hr;obtain⟨DV,hxx⟩:=agR hX oM;have yH:=DV;have iz:=Qh hxx;clear hr DV hxx oM;go_wp2_with fail;refine aI cc ?_;rintro e W4 ⟨rfl,ho,hp,hc⟩;rw[aqR _ _ _ (aqQ hX) rfl rfl]at hc;refine aY ((ho.block _ (gE HZ.o) ae ae).trans HZ.o) (aA.agT HO.o ho cz) hp ?_;intro HZ HO HP;have HC:=Qh (show W4.heap[ks]? = some (.cells ((⟨t.line,t.ak,nm,rb.1,rb.2,0,0,false,false,0,0,0,0,0,0,0,0,[]⟩:dI).cells (.slice none 0 0)) 63)from hc);clear cc ho hp hc;cases hX:cj [58] dD with
    | bad no l c=>
     exact jg (iT [58] dD yH.1 kp _ HP.o) HR.o
    | ok aqT AB=>
     refine kt (iT [58] dD yH.1 kp _ HP.o) HR.o (qg hX yH) ?_;clear yH;intro cc HR uZ iz;go_wp2_with fail;refine aI cc ?_;clear cc;refine qi ?_;intro W5 HZ HC HO HP;cases hX:gQ 2147483648 AB with
     | bad no l c=>
      exact jg (Km AB uZ.1 uZ.head kp _ HP.o (HL.o _ HO.o).1 (HL.o _ HO.o).2) HR.o
     | ok st GR=>
      refine kt (Km AB uZ.1 uZ.head kp _ HP.o (HL.o _ HO.o).1 (HL.o _ HO.o).2) HR.o (NC hX uZ) ?_;clear uZ;intro cc HR yI iz;go_wp2_with fail;refine aI cc ?_;clear cc;refine qi ?_;intro W6 HZ HC HO HP;have hst:=iz.o.1;have c5:=ai.cell ⟨_,HC.o⟩ 5 (.int .i64 0) rfl;have r5:=ai.free ⟨_,HC.o⟩ 5;have bo:=Qh (show(W6.setCell ⟨ks,5,none⟩ (.int .i64 (st:Nat))).heap[ks]? = some (.cells ((⟨t.line,t.ak,nm,rb.1,rb.2,st,0,false,false,0,0,0,0,0,0,0,0,[]⟩:dI).cells (.slice none 0 0)) 63)from (bJ HC.o 5 (.int .i64 (st:Nat))));have aU:=Qh (aA.new HO.o ks cz 5 (.int .i64 (st:Nat)));have bC:=Qh (dH HZ.o (show w.heap.size≠ks by omega) 5 (.int .i64 (st:Nat)));have bw:=Qh (bH.set HP.o dL 5 (.int .i64 (st:Nat)));go_upto_region 5 with fail
      clear c5 r5;have HC:=bo;have HO:=aU;have HZ:=bC;have HP:=bw;clear bo aU bC bw;generalize (W6.setCell ⟨ks,5,none⟩ (.int .i64 (st:Nat)))=W7 at *;cases hX:cj [124] GR with
      | bad no l c=>
       exact jg (iT [124] GR yI.1 kp _ HP.o) HR.o
      | ok avi Ew=>
       refine kt (iT [124] GR yI.1 kp _ HP.o) HR.o (qg hX yI) ?_;clear yI;intro cc HR Ex iz;go_wp2_with fail;refine aI cc ?_;clear cc;refine qi ?_;intro W8 HZ HC HO HP;cases hX:gQ 2147483648 Ew with
       | bad no l c=>
        exact jg (Km Ew Ex.1 Ex.head kp _ HP.o (HL.o _ HO.o).1 (HL.o _ HO.o).2) HR.o
       | ok sz oN=>
        refine kt (Km Ew Ex.1 Ex.head kp _ HP.o (HL.o _ HO.o).1 (HL.o _ HO.o).2) HR.o (NC hX Ex) ?_;clear Ex;intro cc HR Ko iz;go_wp2_with fail;refine aI cc ?_;clear cc;refine qi ?_;intro W9 HZ HC HO HP;have avj:=iz.o.1;have c6:=ai.cell ⟨_,HC.o⟩ 6 (.int .i64 0) rfl;have r6:=ai.free ⟨_,HC.o⟩ 6;have bo:=Qh (show(W9.setCell ⟨ks,6,none⟩ (.int .i64 (sz:Nat))).heap[ks]? = some (.cells ((⟨t.line,t.ak,nm,rb.1,rb.2,st,sz,false,false,0,0,0,0,0,0,0,0,[]⟩:dI).cells (.slice none 0 0)) 63)from (bJ HC.o 6 (.int .i64 (sz:Nat))));have aU:=Qh (aA.new HO.o ks cz 6 (.int .i64 (sz:Nat)));have bC:=Qh (dH HZ.o (show w.heap.size≠ks by omega) 6 (.int .i64 (sz:Nat)));have bw:=Qh (bH.set HP.o dL 6 (.int .i64 (sz:Nat)));go_upto_region 7 with fail
        clear c6 r6;have HC:=bo;have HO:=aU;have HZ:=bC;have HP:=bw;clear bo aU bC bw;generalize (W9.setCell ⟨ks,6,none⟩ (.int .i64 (sz:Nat)))=NG at *;have cc:=rF oN Ko.1.pos kp _ HP.o;unfold eG bZ at cc;go_wp2_with fail;refine aQ cc ?_;intro NH hb;clear cc;refine fx (bF HZ.o hb) (bF HC.o hb) (HO.o.trans (aA.of_below kp hb)) (HP.o.keep hb) ?_;clear hb;intro HZ HC HO HP;go_upto_region 8 with fail
        by_cases hq:(ax oN).kind=4∧(ax oN).text.length=3;case neg=>
         have hr:=HR.o;unfold uP iy eY at hr;rw[if_neg hq,PR.ug]at hr;have dv:=Qh hr;clear hr;have cF:=fun W hW=>Es oN Ko.1.pos kp W hW
         have cc:=rF oN Ko.1.pos kp _ HP.o;unfold eG bZ at cc;go_wp2_with fail;refine aQ cc ?_;intro NI hb;clear cc;refine fx (bF HZ.o hb) (bF HC.o hb) (HO.o.trans (aA.of_below kp hb)) (HP.o.keep hb) ?_;clear hb;intro HZ HC HO HP;have cc:=cF _ HP.o;by_cases hk:(ax oN).kind=4
         ·have hl:¬ (ax oN).text.length=3:=fun e=>hq ⟨hk,e⟩
          have Cp:¬ (((ax oN).text.length:Int)=3):=ae;have Kp:=bN Cp;rw[hk];generalize (ax oN).text=T7 at *;go_wp2_with fail;refine aQ cc ?_;intro AD hb;clear cc;exact CO (HO.o.trans (aA.of_below kp hb))
         ·have e1:=bN hk;generalize (ax oN).kind=K7 at *;go_wp2_with fail;refine aQ cc ?_;intro AD hb;clear cc;exact CO (HO.o.trans (aA.of_below kp hb))
        case pos=>
         have hr:=HR.o;unfold uP at hr;rw[if_pos hq,PR.ku]at hr;have HR:=Qh hr;have Ah:=Qh hq;clear hr;have cn:=fun W hW=>wF 4 oN Ko.1 kp W hW
         rw[show dJ 4 oN=.ok (ax oN) oN.tail by unfold dJ;rw[if_pos ⟨hq.1,ah⟩]]at cn;unfold fN at cn;have hl3:(ax oN).text.length=3:=hq.2;have hk4:(ax oN).kind=4:=hq.1;clear hq;have cc:=rF oN Ko.1.pos kp _ HP.o;unfold eG bZ at cc;go_wp2_with fail;refine aQ cc ?_;intro NI hb;clear cc;refine fx (bF HZ.o hb) (bF HC.o hb) (HO.o.trans (aA.of_below kp hb)) (HP.o.keep hb) ?_;clear hb;intro HZ HC HO HP;have cc:=cn _ HP.o;clear cn;go_wp2_with fail;refine aI cc ?_;clear cc;refine qi ?_;intro AD HZ HC HO HP;have SI:=Ko.tail (by rw[hk4];decide);obtain⟨q0,q1,q2,QF⟩:∃ q0 q1 q2:UInt8,(ax oN).text=[q0,q1,q2]:=agU hl3;rw[QF];have hr:=HR.o;rw[QF]at hr;have HR:=Qh hr;clear hr;have c7:=ai.cell ⟨_,HC.o⟩ 7 (.bool false) rfl;have r7:=ai.free ⟨_,HC.o⟩ 7;have c8:=ai.cell ⟨_,HC.o⟩ 8 (.bool false) rfl;have r8:=ai.free ⟨_,HC.o⟩ 8;have f8:∀ v,(AD.setCell ⟨ks,7,none⟩ v).cell? ⟨ks,8,none⟩=some (.bool false):=fun v=>ai.cell ⟨_,bJ HC.o 7 v⟩ 8 _ rfl
         have g8:∀ v,(AD.setCell ⟨ks,7,none⟩ v).frozen? ⟨ks,8,none⟩=false:=fun v=>ai.free ⟨_,bJ HC.o 7 v⟩ 8
         go_wp2_with fail;refine xt (S:=(fun (_:World)=>True)) aj trivial (fun hHeld=>?_);refine hT 0 ?_;refine aL ?_
         refine hT 1 ?_;refine aL ?_
         refine hT 2 ?_;refine aL ?_
         refine hT 3 ?_;refine aL ?_
         refine hT 4 ?_;refine aL ?_
         refine hT 5 ?_;refine aL ?_
         refine hT 6 ?_;refine Lm ?_;intro K hK
         go_simp
         skip
         refine hK.o _ _ ?_ (fun hHeld=>?_)
         ·trivial
         clear hK K;refine aL ?_
         refine hT 8 ?_;refine E4 ?_;intro K hK
         go_simp
         skip
         refine hK.o _ _ ?_ (fun hHeld=>?_)
         ·trivial
         clear hK K;refine wS ?_
         have HX1:=Qh (show((((⟨#[q0,q1,q2]⟩:ByteArray)[1]' vI).toNat:Int) == 48)=(([q0,q1,q2]:List UInt8)[1]? == some 48)from SH q1 48);have HX2:=Qh (show((((⟨#[q0,q1,q2]⟩:ByteArray)[2]' vJ).toNat:Int) == 45)=(([q0,q1,q2]:List UInt8)[2]? == some 45)from SH q2 45);have bo:=Qh (show(World.drew ((AD.setCell ⟨ks,7,none⟩ (.bool ((((⟨#[q0,q1,q2]⟩:ByteArray)[1]' vI).toNat:Int) == 48))).setCell ⟨ks,8,none⟩ (.bool ((((⟨#[q0,q1,q2]⟩:ByteArray)[2]' vJ).toNat:Int) == 45)))).heap[ks]? = some (.cells ((⟨t.line,t.ak,nm,rb.1,rb.2,st,sz,((((⟨#[q0,q1,q2]⟩:ByteArray)[1]' vI).toNat:Int) == 48),((((⟨#[q0,q1,q2]⟩:ByteArray)[2]' vJ).toNat:Int) == 45),0,0,0,0,0,0,0,0,[]⟩:dI).cells (.slice none 0 0)) 63)from bJ (bJ HC.o 7 (.bool ((((⟨#[q0,q1,q2]⟩:ByteArray)[1]' vI).toNat:Int) == 48))) 8 (.bool ((((⟨#[q0,q1,q2]⟩:ByteArray)[2]' vJ).toNat:Int) == 45)));have aU:=Qh (show aA kp w (World.drew ((AD.setCell ⟨ks,7,none⟩ (.bool ((((⟨#[q0,q1,q2]⟩:ByteArray)[1]' vI).toNat:Int) == 48))).setCell ⟨ks,8,none⟩ (.bool ((((⟨#[q0,q1,q2]⟩:ByteArray)[2]' vJ).toNat:Int) == 45))))from (aA.new (aA.new HO.o ks cz 7 (.bool ((((⟨#[q0,q1,q2]⟩:ByteArray)[1]' vI).toNat:Int) == 48))) ks cz 8 (.bool ((((⟨#[q0,q1,q2]⟩:ByteArray)[2]' vJ).toNat:Int) == 45))).trans (aA.of_below kp (aC _ _).drew));have bC:=Qh (show(World.drew ((AD.setCell ⟨ks,7,none⟩ (.bool ((((⟨#[q0,q1,q2]⟩:ByteArray)[1]' vI).toNat:Int) == 48))).setCell ⟨ks,8,none⟩ (.bool ((((⟨#[q0,q1,q2]⟩:ByteArray)[2]' vJ).toNat:Int) == 45)))).heap[w.heap.size]? = some (.cells kL 63)from dH (dH HZ.o (show w.heap.size≠ks by omega) 7 (.bool ((((⟨#[q0,q1,q2]⟩:ByteArray)[1]' vI).toNat:Int) == 48))) (show w.heap.size≠ks by omega) 8 (.bool ((((⟨#[q0,q1,q2]⟩:ByteArray)[2]' vJ).toNat:Int) == 45)));have bw:=Qh (show bH (World.drew ((AD.setCell ⟨ks,7,none⟩ (.bool ((((⟨#[q0,q1,q2]⟩:ByteArray)[1]' vI).toNat:Int) == 48))).setCell ⟨ks,8,none⟩ (.bool ((((⟨#[q0,q1,q2]⟩:ByteArray)[2]' vJ).toNat:Int) == 45)))) kp oN.tail from (bH.set (bH.set HP.o dL 7 (.bool ((((⟨#[q0,q1,q2]⟩:ByteArray)[1]' vI).toNat:Int) == 48))) dL 8 (.bool ((((⟨#[q0,q1,q2]⟩:ByteArray)[2]' vJ).toNat:Int) == 45))).keep (aC _ _).drew);clear c7 r7 c8 r8 f8 g8 hHeld;generalize ((((⟨#[q0,q1,q2]⟩:ByteArray)[1]' vI).toNat:Int) == 48)=M at *;generalize ((((⟨#[q0,q1,q2]⟩:ByteArray)[2]' vJ).toNat:Int) == 45)=S at *;generalize World.drew ((AD.setCell ⟨ks,7,none⟩ (.bool M)).setCell ⟨ks,8,none⟩ (.bool S))=NJ at *;have HC:=bo;have HO:=aU;have HZ:=bC;have HP:=bw;clear bo aU bC bw;generalize oN.tail=YS at *
         clear hk4 hl3 QF;cases hX:cj [40] YS with
         | bad no l c=>
          exact jg (iT [40] YS SI.1 kp _ HP.o) HR.o
         | ok avk YT=>
          refine kt (iT [40] YS SI.1 kp _ HP.o) HR.o (qg hX SI) ?_;clear SI;intro cc HR Kq iz;go_wp2_with fail;refine aI cc ?_;clear cc;refine qi ?_;intro W15 HZ HC HO HP;cases hX:mZ YT with
          | bad no l c=>
           exact jg (Ev YT Kq.1 Kq.head kp _ HP.o) HR.o
          | ok sc YU=>
           refine kt (Ev YT Kq.1 Kq.head kp _ HP.o) HR.o (ND hX Kq) ?_;clear Kq;intro cc HR SJ iz;go_wp2_with fail;refine aI cc ?_;clear cc;refine qi ?_;intro YV HZ HC HO HP;have c9:=ai.cell ⟨_,HC.o⟩ 9 (.int .i64 0) rfl;have r9:=ai.free ⟨_,HC.o⟩ 9;have c10:=ai.cell ⟨_,HC.o⟩ 10 (.int .i64 0) rfl;have YW:=ai.free ⟨_,HC.o⟩ 10;have bo:=Qh (show((YV.setCell ⟨ks,9,none⟩ (.int .i64 sc.1)).setCell ⟨ks,10,none⟩ (.int .i64 sc.2)).heap[ks]? = some (.cells ((⟨t.line,t.ak,nm,rb.1,rb.2,st,sz,M,S,sc.1,sc.2,0,0,0,0,0,0,[]⟩:dI).cells (.slice none 0 0)) 63)from (bJ (bJ HC.o 9 (.int .i64 sc.1)) 10 (.int .i64 sc.2)));have aU:=Qh (aA.new (aA.new HO.o ks cz 9 (.int .i64 sc.1)) ks cz 10 (.int .i64 sc.2));have bC:=Qh (dH (dH HZ.o (show w.heap.size≠ks by omega) 9 (.int .i64 sc.1)) (show w.heap.size≠ks by omega) 10 (.int .i64 sc.2));have bw:=Qh (bH.set (bH.set HP.o dL 9 (.int .i64 sc.1)) dL 10 (.int .i64 sc.2));go_upto_region 14 with fail
           clear c9 r9 c10 YW;have HC:=bo;have HO:=aU;have HZ:=bC;have HP:=bw;clear bo aU bC bw;generalize ((YV.setCell ⟨ks,9,none⟩ (.int .i64 sc.1)).setCell ⟨ks,10,none⟩ (.int .i64 sc.2))=NK at *;cases hX:cj [44] YU with
           | bad no l c=>
            exact jg (iT [44] YU SJ.1 kp _ HP.o) HR.o
           | ok avl YX=>
            refine kt (iT [44] YU SJ.1 kp _ HP.o) HR.o (qg hX SJ) ?_;clear SJ;intro cc HR Kr iz;go_wp2_with fail;refine aI cc ?_;clear cc;refine qi ?_;intro W18 HZ HC HO HP;cases hX:mZ YX with
            | bad no l c=>
             exact jg (Ev YX Kr.1 Kr.head kp _ HP.o) HR.o
            | ok dO YY=>
             refine kt (Ev YX Kr.1 Kr.head kp _ HP.o) HR.o (ND hX Kr) ?_;clear Kr;intro cc HR SK iz;go_wp2_with fail;refine aI cc ?_;clear cc;refine qi ?_;intro YZ HZ HC HO HP;have c11:=ai.cell ⟨_,HC.o⟩ 11 (.int .i64 0) rfl;have Y3:=ai.free ⟨_,HC.o⟩ 11;have c12:=ai.cell ⟨_,HC.o⟩ 12 (.int .i64 0) rfl;have Y4:=ai.free ⟨_,HC.o⟩ 12;have bo:=Qh (show((YZ.setCell ⟨ks,11,none⟩ (.int .i64 dO.1)).setCell ⟨ks,12,none⟩ (.int .i64 dO.2)).heap[ks]? = some (.cells ((⟨t.line,t.ak,nm,rb.1,rb.2,st,sz,M,S,sc.1,sc.2,dO.1,dO.2,0,0,0,0,[]⟩:dI).cells (.slice none 0 0)) 63)from (bJ (bJ HC.o 11 (.int .i64 dO.1)) 12 (.int .i64 dO.2)));have aU:=Qh (aA.new (aA.new HO.o ks cz 11 (.int .i64 dO.1)) ks cz 12 (.int .i64 dO.2));have bC:=Qh (dH (dH HZ.o (show w.heap.size≠ks by omega) 11 (.int .i64 dO.1)) (show w.heap.size≠ks by omega) 12 (.int .i64 dO.2));have bw:=Qh (bH.set (bH.set HP.o dL 11 (.int .i64 dO.1)) dL 12 (.int .i64 dO.2));go_upto_region 16 with fail
             clear c11 Y3 c12 Y4;have HC:=bo;have HO:=aU;have HZ:=bC;have HP:=bw;clear bo aU bC bw;generalize ((YZ.setCell ⟨ks,11,none⟩ (.int .i64 dO.1)).setCell ⟨ks,12,none⟩ (.int .i64 dO.2))=NL at *;cases hX:cj [41] YY with
             | bad no l c=>
              exact jg (iT [41] YY SK.1 kp _ HP.o) HR.o
             | ok avm Y9=>
              refine kt (iT [41] YY SK.1 kp _ HP.o) HR.o (qg hX SK) ?_;clear SK;intro cc HR SM iz;go_wp2_with fail;refine aI cc ?_;clear cc;refine qi ?_;intro W21 HZ HC HO HP;cases hX:cj [91] Y9 with
              | bad no l c=>
               exact jg (iT [91] Y9 SM.1 kp _ HP.o) HR.o
              | ok avn Za=>
               refine kt (iT [91] Y9 SM.1 kp _ HP.o) HR.o (qg hX SM) ?_;clear SM;intro cc HR Ks iz;go_wp2_with fail;refine aI cc ?_;clear cc;refine qi ?_;intro W22 HZ HC HO HP;cases hX:mZ Za with
               | bad no l c=>
                exact jg (Ev Za Ks.1 Ks.head kp _ HP.o) HR.o
               | ok mi Zb=>
                refine kt (Ev Za Ks.1 Ks.head kp _ HP.o) HR.o (ND hX Ks) ?_;clear Ks;intro cc HR SN iz;go_wp2_with fail;refine aI cc ?_;clear cc;refine qi ?_;intro Zc HZ HC HO HP;have c13:=ai.cell ⟨_,HC.o⟩ 13 (.int .i64 0) rfl;have Zd:=ai.free ⟨_,HC.o⟩ 13;have c14:=ai.cell ⟨_,HC.o⟩ 14 (.int .i64 0) rfl;have Ze:=ai.free ⟨_,HC.o⟩ 14;have bo:=Qh (show((Zc.setCell ⟨ks,13,none⟩ (.int .i64 mi.1)).setCell ⟨ks,14,none⟩ (.int .i64 mi.2)).heap[ks]? = some (.cells ((⟨t.line,t.ak,nm,rb.1,rb.2,st,sz,M,S,sc.1,sc.2,dO.1,dO.2,mi.1,mi.2,0,0,[]⟩:dI).cells (.slice none 0 0)) 63)from (bJ (bJ HC.o 13 (.int .i64 mi.1)) 14 (.int .i64 mi.2)));have aU:=Qh (aA.new (aA.new HO.o ks cz 13 (.int .i64 mi.1)) ks cz 14 (.int .i64 mi.2));have bC:=Qh (dH (dH HZ.o (show w.heap.size≠ks by omega) 13 (.int .i64 mi.1)) (show w.heap.size≠ks by omega) 14 (.int .i64 mi.2));have bw:=Qh (bH.set (bH.set HP.o dL 13 (.int .i64 mi.1)) dL 14 (.int .i64 mi.2));go_upto_region 19 with fail
                clear c13 Zd c14 Ze;have HC:=bo;have HO:=aU;have HZ:=bC;have HP:=bw;clear bo aU bC bw;generalize ((Zc.setCell ⟨ks,13,none⟩ (.int .i64 mi.1)).setCell ⟨ks,14,none⟩ (.int .i64 mi.2))=NM at *;cases hX:cj [124] Zb with
                | bad no l c=>
                 exact jg (iT [124] Zb SN.1 kp _ HP.o) HR.o
                | ok avo Zf=>
                 refine kt (iT [124] Zb SN.1 kp _ HP.o) HR.o (qg hX SN) ?_;clear SN;intro cc HR Kt iz;go_wp2_with fail;refine aI cc ?_;clear cc;refine qi ?_;intro W25 HZ HC HO HP;cases hX:mZ Zf with
                 | bad no l c=>
                  exact jg (Ev Zf Kt.1 Kt.head kp _ HP.o) HR.o
                 | ok ma Zg=>
                  refine kt (Ev Zf Kt.1 Kt.head kp _ HP.o) HR.o (ND hX Kt) ?_;clear Kt;intro cc HR SQ iz;go_wp2_with fail;refine aI cc ?_;clear cc;refine qi ?_;intro Zh HZ HC HO HP;have c15:=ai.cell ⟨_,HC.o⟩ 15 (.int .i64 0) rfl;have Zi:=ai.free ⟨_,HC.o⟩ 15;have c16:=ai.cell ⟨_,HC.o⟩ 16 (.int .i64 0) rfl;have r16:=ai.free ⟨_,HC.o⟩ 16;have bo:=Qh (show((Zh.setCell ⟨ks,15,none⟩ (.int .i64 ma.1)).setCell ⟨ks,16,none⟩ (.int .i64 ma.2)).heap[ks]? = some (.cells ((⟨t.line,t.ak,nm,rb.1,rb.2,st,sz,M,S,sc.1,sc.2,dO.1,dO.2,mi.1,mi.2,ma.1,ma.2,[]⟩:dI).cells (.slice none 0 0)) 63)from (bJ (bJ HC.o 15 (.int .i64 ma.1)) 16 (.int .i64 ma.2)));have aU:=Qh (aA.new (aA.new HO.o ks cz 15 (.int .i64 ma.1)) ks cz 16 (.int .i64 ma.2));have bC:=Qh (dH (dH HZ.o (show w.heap.size≠ks by omega) 15 (.int .i64 ma.1)) (show w.heap.size≠ks by omega) 16 (.int .i64 ma.2));have bw:=Qh (bH.set (bH.set HP.o dL 15 (.int .i64 ma.1)) dL 16 (.int .i64 ma.2));go_upto_region 21 with fail
                  clear c15 Zi c16 r16;have HC:=bo;have HO:=aU;have HZ:=bC;have HP:=bw;clear bo aU bC bw;generalize ((Zh.setCell ⟨ks,15,none⟩ (.int .i64 ma.1)).setCell ⟨ks,16,none⟩ (.int .i64 ma.2))=NP at *;cases hX:cj [93] Zg with
                  | bad no l c=>
                   exact jg (iT [93] Zg SQ.1 kp _ HP.o) HR.o
                  | ok avp Zj=>
                   refine kt (iT [93] Zg SQ.1 kp _ HP.o) HR.o (qg hX SQ) ?_;clear SQ;intro cc HR SR iz;go_wp2_with fail;refine aI cc ?_;clear cc;refine qi ?_;intro W28 HZ HC HO HP;cases hX:dJ 3 Zj with
                   | bad no l c=>
                    exact jg (wF 3 Zj SR.1 kp _ HP.o) HR.o
                   | ok u Zk=>
                    have cc:=wF 3 Zj SR.1 kp _ HP.o;refine K9 HR.o (YP hX SR) ?_;clear SR;intro cc HR Ku iz;go_wp2_with fail;refine aI cc ?_;clear cc;refine qi ?_;intro Zl HZ HC HO HP;have c17:=ai.cell ⟨_,HC.o⟩ 17 (.string ⟨#[]⟩) rfl;have Zm:=ai.free ⟨_,HC.o⟩ 17;have bo:=Qh (show(Zl.setCell ⟨ks,17,none⟩ (.string ⟨u.text.toArray⟩)).heap[ks]? = some (.cells ((⟨t.line,t.ak,nm,rb.1,rb.2,st,sz,M,S,sc.1,sc.2,dO.1,dO.2,mi.1,mi.2,ma.1,ma.2,u.text⟩:dI).cells (.slice none 0 0)) 63)from (bJ HC.o 17 (.string ⟨u.text.toArray⟩)));have aU:=Qh (aA.new HO.o ks cz 17 (.string ⟨u.text.toArray⟩));have bC:=Qh (dH HZ.o (show w.heap.size≠ks by omega) 17 (.string ⟨u.text.toArray⟩));have bw:=Qh (bH.set HP.o dL 17 (.string ⟨u.text.toArray⟩));go_upto_region 23 with fail
                    clear c17 Zm;have HC:=bo;have HO:=aU;have HZ:=bC;have HP:=bw;clear bo aU bC bw;generalize (Zl.setCell ⟨ks,17,none⟩ (.string ⟨u.text.toArray⟩))=Zn at *;cases hX:ee Zk with
                    | bad no l c=>
                     exact jg (wG Zk Ku.1 (bQ Ku.head ah) kp _ HP.o) HR.o
                    | ok n1 NQ=>
                     refine kt (wG Zk Ku.1 (bQ Ku.head ah) kp _ HP.o) HR.o (Kl hX Ku) ?_;clear Ku;intro cc HR agV iz;go_wp2_with fail;refine aI cc ?_;clear cc;refine qi ?_;intro gY HZ HC HO HP;have cH:Below gY.heap.size gY (gY.alloc (.cells #[.string ⟨n1.toArray⟩] 9)):=(aC _ _).alloc af _;have agW:w.heap.size≤gY.heap.size:=HO.o.size;have o1:=aG.lit gY w.heap.size dr 1 (fun _=>rfl) [n1] #[.string ⟨n1.toArray⟩] 9 1 rfl rfl ah agW;have NR:=bF HC.o cH;have c18:=ai.cell ⟨_,NR⟩ 18 (.slice none 0 0) rfl;have Zo:=ai.free ⟨_,NR⟩ 18;have bo:=Qh (show((gY.alloc (.cells #[.string ⟨n1.toArray⟩] 9)).setCell ⟨ks,18,none⟩ (.slice (some ⟨gY.heap.size,0,none⟩) 1 1)).heap[ks]? = some (.cells ((⟨t.line,t.ak,nm,rb.1,rb.2,st,sz,M,S,sc.1,sc.2,dO.1,dO.2,mi.1,mi.2,ma.1,ma.2,u.text⟩:dI).cells (.slice (some ⟨gY.heap.size,0,none⟩) 1 1)) 63)from bJ NR 18 (.slice (some ⟨gY.heap.size,0,none⟩) 1 1));have aU:=Qh (show aA kp w ((gY.alloc (.cells #[.string ⟨n1.toArray⟩] 9)).setCell ⟨ks,18,none⟩ (.slice (some ⟨gY.heap.size,0,none⟩) 1 1))from aA.new (HO.o.trans (aA.of_below kp cH)) ks cz 18 (.slice (some ⟨gY.heap.size,0,none⟩) 1 1));have bC:=Qh (show((gY.alloc (.cells #[.string ⟨n1.toArray⟩] 9)).setCell ⟨ks,18,none⟩ (.slice (some ⟨gY.heap.size,0,none⟩) 1 1)).heap[w.heap.size]? = some (.cells kL 63)from dH (bF HZ.o cH) (show w.heap.size≠ks by omega) 18 (.slice (some ⟨gY.heap.size,0,none⟩) 1 1));have bw:=Qh (show bH ((gY.alloc (.cells #[.string ⟨n1.toArray⟩] 9)).setCell ⟨ks,18,none⟩ (.slice (some ⟨gY.heap.size,0,none⟩) 1 1)) kp NQ from bH.set (HP.o.keep cH) dL 18 (.slice (some ⟨gY.heap.size,0,none⟩) 1 1));have OX:=Qh (show aG ((gY.alloc (.cells #[.string ⟨n1.toArray⟩] 9)).setCell ⟨ks,18,none⟩ (.slice (some ⟨gY.heap.size,0,none⟩) 1 1)) w.heap.size 9 1 dr (.slice (some ⟨gY.heap.size,0,none⟩) 1 1) [n1]from o1.dn ah NR (fun b _ hne=>dN _ _ _ _ hne));clear cH o1 NR agW;go_upto_region 24 with fail
                     clear c18 Zo;have HC:=bo;have HO:=aU;have HZ:=bC;have HP:=bw;clear bo aU bC bw;generalize (gY.alloc (.cells #[.string ⟨n1.toArray⟩] 9)).setCell ⟨ks,18,none⟩ (.slice (some ⟨gY.heap.size,0,none⟩) 1 1)=W32 at *;generalize gY.heap.size=k1 at *;obtain⟨KF,gu,jb⟩:∃ KF:List (List UInt8)→List aw→PR et,R=(lO NQ.length [n1] NQ).bind KF∧KF=fun NS ts=>.ok ⟨⟨t.line,t.ak,nm,rb.1,rb.2,st,sz,([q0,q1,q2]:List UInt8)[1]? == some 48,([q0,q1,q2]:List UInt8)[2]? == some 45,sc.1,sc.2,dO.1,dO.2,mi.1,mi.2,ma.1,ma.2,u.text⟩,NS⟩ ts:=⟨_,HR.o,rfl⟩
                     have u5:=Qh gu;have jh:=Qh jb;clear gu jb;go_wp2_with fail;go_loopw [] (fun wr=>∃ (l:List (List UInt8)) (v:Value) (tz:List aw) (g:Nat),di tz∧tz.length≤g∧l.length+tz.length≤4000001∧R=(lO g l tz).bind KF∧bH wr kp tz∧aA kp w wr∧wr.heap[ks]? = some (.cells ((⟨t.line,t.ak,nm,rb.1,rb.2,st,sz,M,S,sc.1,sc.2,dO.1,dO.2,mi.1,mi.2,ma.1,ma.2,u.text⟩:dI).cells (v)) 63)∧wr.heap[w.heap.size]? = some (.cells kL 63)∧aG wr w.heap.size 9 1 dr v l) (fun wr=>AA wr kp)
                     case atStart=>exact⟨[n1],_,NQ,NQ.length,agV,af,by have:=agV.2.2;simp only[dz,lF];omega,u5.o,HP.o,HO.o,HC.o,HZ.o,OX.o⟩
                     case round=>
                      obtain⟨l,v,tz,g,jc,hg,Kp,qK,kj,qL,yJ,hzz,hown⟩:=hrel;have bm:=jc.1.pos;obtain⟨g',rfl⟩:∃ g',g=g' + 1:=⟨g - 1,ae⟩
                      have cm:=agM [44] tz jc.1 kp wr kj;unfold GN at cm;have mJ:=Qh (show R=(if dt [44] tz then (ee tz.tail).bind fun nm aJ=>lO g' (l++[nm]) aJ else .ok l tz:PR (List (List UInt8))).bind KF from qK);clear qK;have Md:=Qh (fun h=>@mY [44] tz h);generalize dt [44] tz=SB at *;have u6:=Qh qL;clear qL;refine fx yJ hzz hown (bH.cnt kj) ?_;clear kj yJ hzz hown;intro AE Ey kn wI;cases SB
                      ·have eT:R=KF l tz:=mJ.o;rw[jh.o]at eT;have HV:=Qh eT;clear eT;simp only[zC,tj]at cm;unfold fN at cm;go_wp2_with fail;refine dF cm ?_;intro eh ho hp;have jU:=Qh (u6.o.trans ho);have kQ:=Qh hp;have hce:=(ho.block _ (gE AE.o) cO).trans AE.o;have AG:=(ho.block _ (gE Ey.o) cO).trans Ey.o;have GU:aG eh w.heap.size 9 1 dr v l:=aG.vo kn.o fun k hk=>ho.block k (kn.o.lt k hk).2 (by have:=(kn.o.lt k hk).1;simp;omega)
                       obtain⟨av,cv,rfl,-⟩:=GU.shape;have jo:=Qh GU;obtain⟨CC,fB⟩:∃ C,C=(⟨t.line,t.ak,nm,rb.1,rb.2,st,sz,M,S,sc.1,sc.2,dO.1,dO.2,mi.1,mi.2,ma.1,ma.2,u.text⟩:dI).cells (.slice av l.length cv):=⟨_,rfl⟩
                       rw[← fB]at hce;have eB:=Qh fB;refine UM ?_;intro oW nW;have HZE:=Qh AG;have lU:ai eh ks CC:=⟨_,hce⟩
                       have bz:ai eh w.heap.size kL:=⟨_,AG⟩
                       have iP:=underlying63;clear cm ho hp hce AG GU fB;go_wp2_with (first|(refine fG lU 63 (.tmp 3) iP Be ?_)|(refine iC (cs:=CC) bz 63 (.tmp 2) (.tmp 90) Be xj nW ?_))
                       have hrun:=fo (bz.row CC) 63 _ iP rfl Be;refine bB (v:=.agg CC) (by simp[results,results144,Act.put,asAddr,hrun]) rfl ?_;rw[HV.o];refine⟨CC,rfl,⟨.slice av l.length cv,?_,?_⟩,jU.o.row _ af CC,kQ.o.row dG CC⟩
                       ·rw[eB.o,HX1.o,HX2.o]
                       ·exact jo.o.dn ah HZE.o (fun b _ hne=>gK _ _ _ _ hne)
                      ·have eT:R=((ee tz.tail).bind fun nm aJ=>lO g' (l++[nm]) aJ).bind KF:=mJ.o;have HV:=Qh eT;clear eT;simp only[kG]at cm;unfold fN at cm;go_wp2_with fail;refine dF cm ?_;intro eh ho hp;have jU:=Qh (u6.o.trans ho);have kQ:=Qh hp;have nu:=Qh ((ho.block _ (gE AE.o) cO).trans AE.o);have wJ:=Qh ((ho.block _ (gE Ey.o) cO).trans Ey.o);have GU:aG eh w.heap.size 9 1 dr v l:=aG.vo kn.o fun k hk=>ho.block k (kn.o.lt k hk).2 (by have:=(kn.o.lt k hk).1;simp;omega)
                       obtain⟨av,cv,rfl,-⟩:=GU.shape;have jo:=Qh GU;have c18:=ai.cell ⟨_,nu.o⟩ 18 (.slice av l.length cv) rfl;have Zo:=ai.free ⟨_,nu.o⟩ 18;clear cm ho hp GU;have lh:=jc.tail (Md.o Dd);have aqU:=tV jc;generalize tz.tail=NT at *;have cn:=wG NT lh.1 (bQ lh.head ah) kp eh.drew (kQ.o.keep (aC _ _).drew);cases hX:ee NT with
                       | bad no ln c=>
                        rw[hX]at cn;unfold fN at cn;have hr:=HV.o;rw[hX,PR.ug,PR.ug]at hr;have dv:=Qh hr;have pP:=Qh (jU.o.trans (aA.of_below kp (aC eh.heap.size eh).drew));clear hr hX;go_wp2_with fail;refine Uz ?_;intro hHeld;refine hL 0 ?_;refine aL ?_
                        refine hL 1 ?_;refine aL ?_
                        refine hL 2 ?_;refine zg ?_;intro K hK
                        go_simp;refine aQ cn ?_;intro dR ho;have qR:=Qh (pP.o.trans ho);clear ho cn;dsimp only;go_wp2_with fail;exact⟨rfl,by rw[dv.o];exact⟨rfl,qR.o⟩⟩    | ok nm sI=>
                        rw[hX]at cn;unfold fN at cn;have hr:=HV.o;rw[hX,PR.ku]at hr;have dv:=Qh hr;obtain⟨rG,-,-,hut⟩:=Kl hX lh;have Kv:=tV lh;rw[← hut]at Kv;clear hr hX hut;go_wp2_with fail;refine Uz ?_;intro hHeld;refine hL 0 ?_;refine aL ?_
                        refine hL 1 ?_;refine aL ?_
                        refine hL 2 ?_;refine zg ?_;intro K hK
                        go_simp;refine dF cn ?_;intro dR ho hp;have qM:=Qh (eJ (W:=eh.drew) nu.o ae ho);refine lC (eJ (W:=eh.drew) wJ.o ae ho) ((jU.o.trans (aA.of_below kp (aC eh.heap.size eh).drew)).trans ho) hp (aG.only (W:=eh.drew) (jo.o.keep (aC eh.heap.size eh).drew af) dG ho) ?_;intro GV wK yK yL;have avq:w.heap.size≤dR.heap.size:=wK.o.size;have yM:=ai.cell ⟨_,qM.o⟩ 18 (.slice av l.length cv) rfl;have hb5:Below dR.heap.size dR (dR.alloc (.cells #[.string ⟨nm.toArray⟩] 9)):=(aC _ _).alloc af _;clear cn ho hp;clear hHeld;refine hK.o _ _ ?_ (fun hHeld=>?_)
                        ·exact yM
                        clear hK K;refine zh ?_;intro K hK
                        go_simp;clear hHeld;refine hK.o _ _ ?_ (fun hHeld=>?_)
                        ·exact dx yM hb5
                        clear hK K;refine CU ?_;intro K hK
                        have tW:=Qh (bF qM.o hb5);have Cs:=Qh (bF GV.o hb5);refine fQ (wK.o.trans (aA.of_below kp hb5)) (yK.o.keep hb5) (yL.o.keep hb5 af) (dK dR (.cells #[.string ⟨nm.toArray⟩] 9)) ?_;intro pE vd lV oO;have oP:w.heap.size≤(dR.alloc (.cells #[.string ⟨nm.toArray⟩] 9)).heap.size:=pE.o.size;clear hb5;generalize dR.alloc (.cells #[.string ⟨nm.toArray⟩] 9)=wL at *;refine FH (en:=dr) xJ l nm (g:=dR.heap.size) lV.o (aC w.heap.size wL) oP ae oO ?_ (hone:=Bd);refine AU ?_;intro v5 w5 fP bR fD a5 n5 c5 mG
                        subst mG;have fF:=Qh (jQ tW.o lV.o ah fD);refine fQ (jQ Cs.o lV.o ah fD) (aA.low pE.o bR) (bH.low vd.o dG bR) (ai.cell ⟨_,fF.o⟩ 18 (.slice av l.length cv) rfl) ?_;intro vu iV pF kP;have qH:=ai.free ⟨_,fF.o⟩ 18;clear bR fD oO oP;clear hHeld;refine hK.o _ _ ?_ (fun hHeld=>?_)
                        ·exact kP
                        clear hK K;refine aL ?_
                        refine hL 6 ?_;refine EX ?_;intro K hK
                        go_simp;refine hK.o _ _ ?_;clear hK K;refine Ug (bJ fF.o 18 (.slice a5 n5 c5)) (aA.new iV.o ks cz 18 (.slice a5 n5 c5)) (bH.set pF.o dL 18 (.slice a5 n5 c5)) ?_;intro eU ve gJ jE sJ
                        have GX:=Qh (bH.cnt jE.o);clear fP kP qH c18 Zo yM;go_wp2_with fail;go_roundw;case rel=>exact⟨l++[nm],_,sI,g',rG,ae,sT,dv.o,jE.o,gJ.o,eU.o,ve.o,sJ.o⟩
                        case measure=>rw[GX.o,wI.o];omega
end Go.Proofs.YtfflljgnpfldfaaGreatDoor
