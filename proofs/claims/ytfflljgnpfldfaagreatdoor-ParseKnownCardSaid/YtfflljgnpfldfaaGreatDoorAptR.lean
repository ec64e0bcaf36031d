/-
  Contract of busbarkit.ApartRows (the text ApartRule turned to rows).
-/
import Derived.Test.YtfflljgnpfldfaaGreatDoorNotA
set_option linter.all false
set_option maxHeartbeats 128000000
set_option maxRecDepth 100000
namespace Go.Proofs.YtfflljgnpfldfaaGreatDoor
open Go.Proofs.Tryz
open Go.RowKit
abbrev Qo (w:World) (a:Option Addr) (cap:Nat) (l:List (List UInt8)):Prop:=bA w dr 1 a cap l
theorem Qo.at {w:World} {a:Option Addr} {cap:Nat} {l:List (List UInt8)} (h:Qo w a cap l) {k:Nat} (hk:k < l.length):∃ b o,a=some ⟨b,o,none⟩∧b < w.heap.size∧w.cell? ⟨b,o+k,none⟩=some (.string ⟨l[k].toArray⟩):=
 bA.cell1 h (fun x:List UInt8=>.string ⟨x.toArray⟩) (fun _=>rfl) hk
def iK (k i:Nat):List UInt8:=[35,UInt8.ofNat k,UInt8.ofNat (k / 256),UInt8.ofNat i,UInt8.ofNat (i / 256)]
theorem L8 (l:List UInt8):(dr l).length=1:=rfl
theorem TQ (n:Nat):IntKind.u8.wrap (n:Int)=(((UInt8.ofNat n).toNat:Nat):Int):=by
 unfold IntKind.wrap;simp[IntKind.bits,IntKind.signed]
theorem aeU (k i:Nat) (hk:k≤1000000) (hi:i≤281474976710656) (w:World) :
  Calls prog 123 #[.int .i64 k,.int .i64 i] w fun e w'=>e=.returned (.string ⟨(iK k i).toArray⟩)∧Below w.heap.size w w':=by
 have e1:(k:Int) / 256=((k / 256:Nat):Int):=ae;have e2:(i:Int) / 256=((i / 256:Nat):Int):=ae;have c1:=TQ k;have c2:=TQ (k / 256);have c3:=TQ i;have c4:=TQ (i / 256);unfold iK at *;generalize k / 256=k2 at *;generalize i / 256=i2 at *;generalize UInt8.ofNat k=b1 at *;generalize UInt8.ofNat k2=b2 at *;generalize UInt8.ofNat i=b3 at *;generalize UInt8.ofNat i2=b4 at *;have hs:=bA.lit w Mg 1 (fun _=>rfl) [35,b1,b2,b3,b4] #[.int .u8 35,.int .u8 b1.toNat,.int .u8 b2.toNat,.int .u8 b3.toNat,.int .u8 b4.toNat] 5 5 rfl rfl ah;have ah5:(convert 199 9 (.slice (some ⟨w.heap.size,0,none⟩) 5 5)).run prog (w.alloc (.cells #[.int .u8 35,.int .u8 b1.toNat,.int .u8 b2.toNat,.int .u8 b3.toNat,.int .u8 b4.toNat] 5))=.ok (.string ⟨#[35,b1,b2,b3,b4]⟩) (w.alloc (.cells #[.int .u8 35,.int .u8 b1.toNat,.int .u8 b2.toNat,.int .u8 b3.toNat,.int .u8 b4.toNat] 5)):=
  run_convert_bytes_back _ 199 9 5 ⟨w.heap.size,0,none⟩ 5 [35,b1,b2,b3,b4] underlying199 underlying5 underlying9 fun j hj=>by
   obtain⟨b,o,e1,_,hc⟩:=bA.cell1 hs (fun x:UInt8=>.int .u8 (x.toNat:Int)) (fun _=>rfl) hj;cases e1
   rw[Addr.add_lit];exact hc
 have HB:=Qh ((aC w.heap.size w).alloc af (.cells #[.int .u8 35,.int .u8 b1.toNat,.int .u8 b2.toNat,.int .u8 b3.toNat,.int .u8 b4.toNat] 5));clear hs;go_enter func123,ntmps123
 exact ui
theorem Vx (k i:Nat) (hk:k≤1000000) (hi:i≤281474976710656) (w:World) :
  Calls prog 115 #[.int .i64 k,.int .i64 i] w fun e w'=>e=.returned (.string ⟨(iK k i).toArray⟩)∧Below w.heap.size w w':=by
 have c:=aeU k i hk hi;generalize iK k i=mt at *;go_enter func115,ntmps115
 go_wp2_with fail;refine aQ (c _) ?_;intro w1 hb
 exact CV
theorem ajm:eO prog 71 27 1 24:=eO.mk' (.slice none 0 0) underlying71 aj rfl ah ah
theorem ajn (base m:Nat) (vs:Nat→Value) (xs:Nat→List (List UInt8)) (al:Option Addr) (cl:Nat) (w:World) (hm:m≤100000) (hB:base≤w.heap.size)
  (ho:∀ j,j < m→aG w base 9 1 dr (vs j) (xs j)) (hap:∀ i j,i < m→j < m→i≠j→Apart (vs i) (vs j))
  (Du:aG w base 27 1 qq (.slice al m cl) ((List.range m).map vs)) (hr:∀ j,j < m→((xs j).length+64)*16≤140737488355328) :
  Calls prog 62 #[.slice al m cl] w fun e w'=>e=.returned (.bool true)∧Below base w w'∧qx 9 27 w w':=by
 have hne:9≠27:=ah;refine U3 ?_;intro n hn
 have ha0:fw dr 1 9 27 base m vs (.slice al m cl) w xs w:=⟨aC _ _,ho,Du,qx.refl _ _ _⟩
 have ia:kZ m iK n 0 0 xs:=kZ.start fun j _=>(hn j).symm
 have hr':∀ j,j < m→(n j+64)*16≤140737488355328:=fun j hj=>by rw[hn];exact hr j hj
 clear ho Du hr hn;go_enter func62,ntmps62
 go_wp2_with fail;go_loopw [3] (fun v wr=>∃ k X,k≤m∧v=.int .i64 (k:Nat)∧fw dr 1 9 27 base m vs (.slice al m cl) w X wr∧kZ m iK n k 0 X) (fun v _=>m - (intOf v).toNat)
 case atStart=>exact⟨0,xs,bV _,rfl,ha0,ia⟩
 case round=>
  clear ha0 ia;obtain⟨k,X,hk,rfl,ha,hp⟩:=hrel;by_cases hlt:k < m
  ·go_wp2_with fail;obtain⟨bl,ol,rfl,xF,xG⟩:=bA.cell1 ha.ls.sl.2 id (fun _=>rfl) (k:=k) Bi;go_loopw [4] (fun v wr=>∃ i X,i≤n k∧v=.int .i64 (i:Nat)∧fw dr 1 9 27 base m vs (.slice (some ⟨bl,ol,none⟩) m cl) w X wr∧kZ m iK n k i X) (fun v _=>n k - (intOf v).toNat)
   case atStart=>exact⟨0,X,bV _,rfl,ha,hp⟩
   case round=>
    clear ha hp xG xF X;obtain⟨i,X,hi,rfl,ha,hp⟩:=hrel;obtain⟨IK,IL,BJ,hbl,hcl⟩:=bA.cell1 ha.ls.sl.2 id (fun _=>rfl) (k:=k) Bi;cases BJ
    rw[LU]at hcl;simp only[id]at hcl;obtain⟨av,cv,hv,gW⟩:=(ha.own k hlt).shape;rw[hp.len k hlt]at hv;have kH:=gW.len;rw[hp.len k hlt]at kH;rw[hv]at hcl;by_cases jV:i < n k
    ·obtain⟨g,cv',hv',hbg,Uk,_,_⟩:=(ha.own k hlt).block (by rw[hp.len k hlt];omega);rw[hp.len k hlt]at hv';rw[hv]at hv';cases hv'
     have hst:∀ (W:World),(fw dr 1 9 27 base m vs (.slice (some ⟨bl,ol,none⟩) m cl) w X W∨fw dr 1 9 27 base m vs (.slice (some ⟨bl,ol,none⟩) m cl) w (fun j=>if j=k then (X k).set i (iK k i) else X j) W)→fw dr 1 9 27 base m vs (.slice (some ⟨bl,ol,none⟩) m cl) w (fun j=>if j=k then (X k).set i (iK k i) else X j) (setRow W g (i*1) (dr (iK k i))):=by
      intro W hW;rcases hW with h|h
      ·exact h.store hap hne L8 hlt hv Ig _
      ·have:=h.store hap hne L8 hlt hv (i:=i) U4 (iK k i);rw[kZ.again]at this;exact this
     have zP:=hp.next hlt jV;obtain⟨X',LV⟩:∃ X',X' = (fun j=>if j=k then (X k).set i (iK k i) else X j):=⟨_,rfl⟩
     rw[← LV]at hst zP;have hroom:∀ W,(fw dr 1 9 27 base m vs (.slice (some ⟨bl,ol,none⟩) m cl) w X W∨fw dr 1 9 27 base m vs (.slice (some ⟨bl,ol,none⟩) m cl) w X' W)→∃ u,W.cell? ⟨g,i,none⟩=some u:=fun W hW=>by
      rcases hW with h|h
      ·simpa using h.room L8 hlt hv Ig (j:=0) ah
      ·simpa using h.room L8 hlt hv (by rw[zP.len k hlt];exact jV) (j:=0) ah
     have hfr:∀ j,wr.frozen? ⟨g,j,none⟩=false:=(by have:=ha.own k hlt;rw[hv]at this;exact this.free);go_wp2_with fail;refine xt (S:=(fun (w':World)=>Below base w w'∧w'.cell? ⟨bl,ol+k,none⟩=some (.slice (some ⟨g,0,none⟩) (n k) cv)∧w'.heap.size≥wr.heap.size∧(∀ j,w'.frozen? ⟨g,j,none⟩=false)∧(fw dr 1 9 27 base m vs (.slice (some ⟨bl,ol,none⟩) m cl) w X w'∨fw dr 1 9 27 base m vs (.slice (some ⟨bl,ol,none⟩) m cl) w X' w'))) aj ⟨ha.cL.drew,hcl,af,hfr,.inl ha.drew⟩ (fun hHeld=>?_);refine hT 0 ?_;refine aL ?_
     refine hT 1 ?_;refine aL ?_
     refine hT 2 ?_;refine aL ?_
     refine hT 3 ?_;refine aL ?_
     refine hT 4 ?_;refine aL ?_
     refine hT 5 ?_;refine aL ?_
     refine hT 6 ?_;refine Lm ?_;intro K hK
     go_simp;refine aQ (Vx k i ae LC _) ?_;intro w' hb'
     refine hK.o _ _ ?_ (fun hHeld=>?_)
     ·exact aa9
     clear hK K;refine aL ?_
     refine hT 8 ?_;refine E4 ?_;intro K hK
     obtain⟨u0,Vs⟩:∃ u,World.cell? _ ⟨g,i,none⟩=some u:=hroom _ hHeld.2.2.2.2;have hf0:=hHeld.2.2.2.1 i;go_simp;have hnew:=hst _ hHeld.2.2.2.2;rw[Nat.mul_one]at hnew;change fw _ _ _ _ _ _ _ _ _ _ (World.setCell _ ⟨g,i,none⟩ _)at hnew;refine hK.o _ _ ?_ (fun FC=>?_)
     ·exact abu
     clear hK K hHeld FC hst hroom Vs hf0;refine wpAnyH_done aj ?_ _;go_wp2_with fail;go_roundw;case rel=>exact⟨i+1,X',ae,bL,hnew,zP⟩
     case measure=>exact bY
    ·obtain rfl:i=n k:=by omega
     have o9:=hp.row hlt;go_wp2_with fail;go_roundw;case rel=>exact⟨k+1,X,ae,bL,ha,o9⟩
     case measure=>exact bY
  ·have gO:Hid (k=m):=Qh ae;have hb0:=mS.start ha (gO.o ▸ hp) vs;clear ha hp;obtain⟨kq,xH⟩:∃ x,x=k:=⟨_,rfl⟩
   subst xH;go_wp2_with fail;go_loopw [5,6] (fun jZ v wr=>∃ k G,k≤m∧v=.int .i64 (k:Nat)∧mS dr 1 9 27 base m vs (.slice al m cl) w iK n k G jZ wr) (fun _ v _=>m - (intOf v).toNat)
   case atStart=>exact⟨0,vs,bV _,rfl,hb0⟩
   case round=>
    clear hb0 gO hlt hk X;obtain⟨k,G,hk,rfl,hb⟩:=hrel;have Dv:=hb.gs.shape;rw[iw,List.length_range]at Dv;obtain⟨ag,cg,rfl,cV⟩:=Dv;by_cases hlt:k < m
    ·have hc0:=hb.enter hap hlt;obtain⟨bl,ol,rfl,xF,xG⟩:=bA.cell1 hb.a.ls.sl.2 id (fun _=>rfl) (k:=k) Bi;have hcl:=hb.a.CY hlt;clear hb xF xG;go_wp2_with fail;go_loopw [7,8] (fun gv v wr=>∃ i:Nat,i≤64∧v=.int .i64 (i:Nat)∧vX dr 1 9 27 base m vs (.slice (some ⟨bl,ol,none⟩) m cl) w iK n k G (.slice ag k cg) gv i wr) (fun _ v _=>64 - (intOf v).toNat)
     case atStart=>exact⟨0,bV _,rfl,hc0⟩
     case round=>
      clear hc0 hcl;obtain⟨i,hi,rfl,hc⟩:=hrel;have Dw:=hc.cur.shape;rw[iX]at Dw;obtain⟨ac,cc,rfl,hsc⟩:=Dw;by_cases jV:i < 64
      ·have hcl:=hc.a.CY hlt;obtain⟨av,cv,hv,gW⟩:=(hc.a.own k hlt).shape;rw[iX]at hv;have kH:=gW.len;rw[iX]at kH;rw[hv]at hcl;have LW:=hr' k hlt;go_wp2_with fail;have hcast:((n k:Int)+(i:Int))=((n k+i:Nat):Int):=ae;rw[hcast];clear hcast;refine(Vx k (n k+i) ae ae _).mono ?_;rintro e w1 ⟨rfl,hb1⟩;have hc1:=hc.keep hB hb1;obtain⟨mt,Vy⟩:∃ x,x=iK k (n k+i):=⟨_,rfl⟩
       rw[← Vy];have HMT:=Qh Vy;have uJ:=Qh LW;clear hc hcl hv gW hb1 hsc kH cV Vy LW;go_wp2_with (at_builtin;go_loud (refine Vv xJ (marksOf iK k (n k+i)) mt hc1.cur hc1.a.cL hB (by have:=uJ.o;rw[iX];omega) ?_ (hone:=Bd)))
       intro v' w2 ho2 hb2 hg2 hv2 Dx;rw[HMT.o]at ho2;have hc2:=hc1.step hne L8 hlt ho2 hb2 hg2 hv2 Dx;clear hc1 ho2 hb2 hg2 hv2 Dx;go_wp2
       go_roundw;case rel=>exact⟨i+1,ae,bL,hc2⟩
       case measure=>exact bY
      ·obtain rfl:i=64:=by omega
       go_wp2_with (at_builtin;go_loud (refine iL ajm ((List.range k).map G) (.slice ac (n k+64) cc) hc.gs hc.a.cL hB cO ?_ (hone:=Ii)))
       intro v' w2 ho2 hb2 hg2 hv2;have hb3:=hc.leave hne ho2 hb2 hg2 hv2;clear hc ho2 hb2 hg2 hv2 hsc;go_wp2
       go_roundw;case rel=>exact⟨k+1,_,ae,bL,hb3⟩
       case measure=>exact bY
    ·have gO:m=k:=ae;subst gO;clear cV;go_wp2_with fail;go_loopw [9] (fun v wr=>∃ k:Nat,k≤m∧v=.int .i64 (k:Nat)∧mS dr 1 9 27 base m vs (.slice al m cl) w iK n m G (.slice ag m cg) wr) (fun v _=>m - (intOf v).toNat)
     case atStart=>exact H8
     case round=>
      clear hb hlt hk;obtain⟨k,hk,rfl,hb⟩:=hrel;by_cases hlt:k < m
      ·go_wp2_with fail;obtain⟨bg,og,rfl,rV⟩:=hb.IP hlt;obtain⟨bl,ol,rfl,hcl⟩:=hb.a.IQ hlt;clear rV hcl;go_loopw [10] (fun v wr=>∃ i:Nat,i≤n k+64∧v=.int .i64 (i:Nat)∧mS dr 1 9 27 base m vs (.slice (some ⟨bl,ol,none⟩) m cl) w iK n m G (.slice (some ⟨bg,og,none⟩) m cg) wr) (fun v _=>n k+64 - (intOf v).toNat)
       case atStart=>exact H8
       case round=>
        clear hb;obtain⟨i,hi,rfl,hb⟩:=hrel;obtain⟨ga,gc,tC,cV⟩:=(hb.xI k hlt).shape;rw[iX]at tC;obtain⟨bg',og',e1,rV⟩:=hb.IP hlt;cases e1
        rw[tC]at rV;have LY:=cV.len;rw[iX]at LY;by_cases jV:i < n k+64
        ·go_wp2_with fail;refine(Vx k i ae LC _).mono ?_;rintro e w1 ⟨rfl,hb1⟩;have ix:=hb.keep hB hb1;have ajg:=dx rV hb1;have FD:=cV.keep hb1 af;clear hb rV cV hb1;obtain⟨bq,oq,rfl,hbq,hg0⟩:=Qo.at FD (k:=i) (by rw[iX];exact jV);rw[IU]at hg0;obtain⟨IK,IL,e1,hcl⟩:=ix.a.IQ hlt;cases e1
         obtain⟨av,cv,hv,gW⟩:=(ix.a.own k hlt).shape;rw[iX]at hv;rw[hv]at hcl;have hlv:=gW.len;rw[iX]at hlv;by_cases hin:(i:Int) < n k
         ·obtain⟨bv,ov,rfl,Dy,hl0⟩:=Qo.at gW (k:=i) (by rw[iX];omega);rw[IU]at hl0;clear FD gW tC hv;generalize iK k i=mt at *;go_wp2_with fail;go_roundw;case rel=>exact⟨i+1,ae,bL,ix⟩
          case measure=>exact bY
         ·have hdec:decide (i < n k)=false:=dU ae;clear FD gW tC hv;generalize iK k i=mt at *;go_wp2_with fail;go_roundw;case rel=>exact⟨i+1,ae,bL,ix⟩
          case measure=>exact bY
        ·obtain rfl:i=n k+64:=by omega
         go_wp2_with fail;go_roundw;case rel=>exact⟨k+1,ae,bL,hb⟩
         case measure=>exact bY
      ·exact UU
def rh (k i:Nat):Int×List UInt8:=(-7,iK k i)
theorem Vt (k i:Nat):fS (rh k i)=[.int .i64 (-7),.string ⟨(iK k i).toArray⟩]:=rfl
theorem IM (x:Int×List UInt8):(fS x).length=2:=rfl
theorem Vr (k i:Nat) (hk:k≤1000000) (hi:i≤281474976710656) (w:World) :
  Calls prog 119 #[.int .i64 k,.int .i64 i] w fun e w'=>e=.returned (.agg #[.int .i64 (-7),.string ⟨(iK k i).toArray⟩])∧Below w.heap.size w w':=by
 have c:=aeU k i hk hi;have HB:=Qh ((aC w.heap.size w).alloc af (.cells #[.int .i64 0,.string ⟨#[]⟩] 45));have b2:=ai.new w #[.int .i64 0,.string ⟨#[]⟩] 45;have HK:=Qh b2;generalize iK k i=mt at *;clear b2;go_enter func119,ntmps119
 go_wp2_with fail;refine aQ (c _) ?_;intro w1 hb
 have bk:=HK.o.keep hb af;have bX:=Qh (aH HB.o hb af);obtain⟨r0,r1,f0,f1⟩:=bk.two;have huR:=underlying45;clear hb;go_wp2_with (refine iC (cs:=#[.int .i64 (-7),.string ⟨mt.toArray⟩]) bk 45 (.tmp 4) (.tmp 8) Xk rfl uz ?_)
 have hrun:=fo (bk.row #[.int .i64 (-7),.string ⟨mt.toArray⟩]) 45 _ huR rfl Xk;refine⟨rfl,.agg #[.int .i64 (-7),.string ⟨mt.toArray⟩],by simp[results,results119,Act.put,asAddr,hrun],rfl,pL bX.o af _⟩
theorem ajd (a i:Nat) (h:(a+64)*24≤140737488355328) (hi:i < 64):(a+i+1)*24≤140737488355328:=bQ (vL 24 (show a+i+1≤a+64 by omega)) h
theorem aje:eO prog 75 41 1 24:=eO.mk' (.slice none 0 0) underlying75 aj rfl ah ah
theorem ajf (base m:Nat) (vs:Nat→Value) (xs:Nat→List (Int×List UInt8)) (al:Option Addr) (cl:Nat) (w:World) (hm:m≤1000000) (hB:base≤w.heap.size)
  (ho:∀ j,j < m→aG w base 45 2 fS (vs j) (xs j)) (hap:∀ i j,i < m→j < m→i≠j→Apart (vs i) (vs j))
  (Du:aG w base 41 1 qq (.slice al m cl) ((List.range m).map vs)) (hr:∀ j,j < m→((xs j).length+64)*24≤140737488355328) :
  Calls prog 66 #[.slice al m cl] w fun e w'=>e=.returned (.bool true)∧Below base w w'∧qx 45 41 w w':=by
 have hne:45≠41:=ah;refine U3 ?_;intro n hn
 have ha0:fw fS 2 45 41 base m vs (.slice al m cl) w xs w:=⟨aC _ _,ho,Du,qx.refl _ _ _⟩
 have ia:kZ m rh n 0 0 xs:=kZ.start fun j _=>(hn j).symm
 have hr':∀ j,j < m→(n j+64)*24≤140737488355328:=fun j hj=>by rw[hn];exact hr j hj
 clear ho Du hr hn;go_enter func66,ntmps66
 go_wp2_with fail;go_loopw [3] (fun v wr=>∃ k X,k≤m∧v=.int .i64 (k:Nat)∧fw fS 2 45 41 base m vs (.slice al m cl) w X wr∧kZ m rh n k 0 X) (fun v _=>m - (intOf v).toNat)
 case atStart=>exact⟨0,xs,bV _,rfl,ha0,ia⟩
 case round=>
  clear ha0 ia;obtain⟨k,X,hk,rfl,ha,hp⟩:=hrel;by_cases hlt:k < m
  ·go_wp2_with fail;obtain⟨bl,ol,rfl,xF,xG⟩:=bA.cell1 ha.ls.sl.2 id (fun _=>rfl) (k:=k) Bi;go_loopw [4] (fun v wr=>∃ i X,i≤n k∧v=.int .i64 (i:Nat)∧fw fS 2 45 41 base m vs (.slice (some ⟨bl,ol,none⟩) m cl) w X wr∧kZ m rh n k i X) (fun v _=>n k - (intOf v).toNat)
   case atStart=>exact⟨0,X,bV _,rfl,ha,hp⟩
   case round=>
    clear ha hp xG xF X;obtain⟨i,X,hi,rfl,ha,hp⟩:=hrel;obtain⟨IK,IL,BJ,hbl,hcl⟩:=bA.cell1 ha.ls.sl.2 id (fun _=>rfl) (k:=k) Bi;cases BJ
    rw[LU]at hcl;simp only[id]at hcl;obtain⟨av,cv,hv,gW⟩:=(ha.own k hlt).shape;rw[hp.len k hlt]at hv;have kH:=gW.len;rw[hp.len k hlt]at kH;rw[hv]at hcl;by_cases jV:i < n k
    ·obtain⟨g,cv',hv',hbg,Uk,_,_⟩:=(ha.own k hlt).block (by rw[hp.len k hlt];omega);rw[hp.len k hlt]at hv';rw[hv]at hv';cases hv'
     have hst:∀ (W:World),(fw fS 2 45 41 base m vs (.slice (some ⟨bl,ol,none⟩) m cl) w X W∨fw fS 2 45 41 base m vs (.slice (some ⟨bl,ol,none⟩) m cl) w (fun j=>if j=k then (X k).set i (rh k i) else X j) W)→fw fS 2 45 41 base m vs (.slice (some ⟨bl,ol,none⟩) m cl) w (fun j=>if j=k then (X k).set i (rh k i) else X j) (setRow W g (i*2) (fS (rh k i))):=by
      intro W hW;rcases hW with h|h
      ·exact h.store hap hne IM hlt hv Ig _
      ·have:=h.store hap hne IM hlt hv (i:=i) U4 (rh k i);rw[kZ.again]at this;exact this
     have zP:=hp.next hlt jV;obtain⟨X',LV⟩:∃ X',X' = (fun j=>if j=k then (X k).set i (rh k i) else X j):=⟨_,rfl⟩
     rw[← LV]at hst zP;have hroom:∀ W,(fw fS 2 45 41 base m vs (.slice (some ⟨bl,ol,none⟩) m cl) w X W∨fw fS 2 45 41 base m vs (.slice (some ⟨bl,ol,none⟩) m cl) w X' W)→∀ j,j < 2→∃ u,W.cell? ⟨g,i*2+j,none⟩=some u:=fun W hW j hj=>by
      rcases hW with h|h
      ·exact h.room IM hlt hv Ig hj
      ·exact h.room IM hlt hv (by rw[zP.len k hlt];exact jV) hj
     have hfr:∀ j,wr.frozen? ⟨g,j,none⟩=false:=(by have:=ha.own k hlt;rw[hv]at this;exact this.free);go_wp2_with fail;refine xt (S:=(fun (w':World)=>Below base w w'∧w'.cell? ⟨bl,ol+k,none⟩=some (.slice (some ⟨g,0,none⟩) (n k) cv)∧w'.heap.size≥wr.heap.size∧(∀ j,w'.frozen? ⟨g,j,none⟩=false)∧(fw fS 2 45 41 base m vs (.slice (some ⟨bl,ol,none⟩) m cl) w X w'∨fw fS 2 45 41 base m vs (.slice (some ⟨bl,ol,none⟩) m cl) w X' w'))) aj ⟨ha.cL.drew,hcl,af,hfr,.inl ha.drew⟩ (fun hHeld=>?_);refine hT 0 ?_;refine aL ?_
     refine hT 1 ?_;refine aL ?_
     refine hT 2 ?_;refine aL ?_
     refine hT 3 ?_;refine aL ?_
     refine hT 4 ?_;refine aL ?_
     refine hT 5 ?_;refine aL ?_
     refine hT 6 ?_;refine Lm ?_;intro K hK
     go_simp;refine aQ (Vr k i ae LC _) ?_;intro w' hb'
     refine hK.o _ _ ?_ (fun hHeld=>?_)
     ·exact aa9
     clear hK K;refine aL ?_
     refine hT 8 ?_;refine E4 ?_;intro K hK
     obtain⟨u0,Vs⟩:∃ u,World.cell? _ ⟨g,i*2,none⟩=some u:=hroom _ hHeld.2.2.2.2 0 ah;obtain⟨u1,hu1⟩:∃ u,World.cell? _ ⟨g,i*2+1,none⟩=some u:=hroom _ hHeld.2.2.2.2 1 ah;have hf0:=hHeld.2.2.2.1 (i*2);have jk:=hHeld.2.2.2.1 (i*2+1);go_simp;have hnew:=hst _ hHeld.2.2.2.2;rw[show fS (rh k i)=_ from Vt k i]at hnew;change fw _ _ _ _ _ _ _ _ _ _ (World.setCell (World.setCell _ ⟨g,i*2,none⟩ _) ⟨g,i*2+1,none⟩ _)at hnew;refine hK.o _ _ ?_ (fun FC=>?_)
     ·exact abu
     clear hK K hHeld FC hst hroom Vs hu1 hf0 jk;refine wpAnyH_done aj ?_ _;go_wp2_with fail;go_roundw;case rel=>exact⟨i+1,X',ae,bL,hnew,zP⟩
     case measure=>exact bY
    ·obtain rfl:i=n k:=by omega
     have o9:=hp.row hlt;go_wp2_with fail;go_roundw;case rel=>exact⟨k+1,X,ae,bL,ha,o9⟩
     case measure=>exact bY
  ·have gO:Hid (k=m):=Qh ae;have hb0:=mS.start ha (gO.o ▸ hp) vs;clear ha hp;obtain⟨kq,xH⟩:∃ x,x=k:=⟨_,rfl⟩
   subst xH;go_wp2_with fail;go_loopw [5,6] (fun jZ v wr=>∃ k G,k≤m∧v=.int .i64 (k:Nat)∧mS fS 2 45 41 base m vs (.slice al m cl) w rh n k G jZ wr) (fun _ v _=>m - (intOf v).toNat)
   case atStart=>exact⟨0,vs,bV _,rfl,hb0⟩
   case round=>
    clear hb0 gO hlt hk X;obtain⟨k,G,hk,rfl,hb⟩:=hrel;have Dv:=hb.gs.shape;rw[iw,List.length_range]at Dv;obtain⟨ag,cg,rfl,cV⟩:=Dv;by_cases hlt:k < m
    ·have hc0:=hb.enter hap hlt;obtain⟨bl,ol,rfl,xF,xG⟩:=bA.cell1 hb.a.ls.sl.2 id (fun _=>rfl) (k:=k) Bi;have hcl:=hb.a.CY hlt;clear hb xF xG;go_wp2_with fail;go_loopw [7,8] (fun gv v wr=>∃ i:Nat,i≤64∧v=.int .i64 (i:Nat)∧vX fS 2 45 41 base m vs (.slice (some ⟨bl,ol,none⟩) m cl) w rh n k G (.slice ag k cg) gv i wr) (fun _ v _=>64 - (intOf v).toNat)
     case atStart=>exact⟨0,bV _,rfl,hc0⟩
     case round=>
      clear hc0 hcl;obtain⟨i,hi,rfl,hc⟩:=hrel;have Dw:=hc.cur.shape;rw[iX]at Dw;obtain⟨ac,cc,rfl,hsc⟩:=Dw;by_cases jV:i < 64
      ·have hcl:=hc.a.CY hlt;obtain⟨av,cv,hv,gW⟩:=(hc.a.own k hlt).shape;rw[iX]at hv;have kH:=gW.len;rw[iX]at kH;rw[hv]at hcl;have LW:=hr' k hlt;go_wp2_with fail;have hcast:((n k:Int)+(i:Int))=((n k+i:Nat):Int):=ae;rw[hcast];clear hcast;refine(Vr k (n k+i) ae ae _).mono ?_;rintro e w1 ⟨rfl,hb1⟩;have hc1:=hc.keep hB hb1;have HMK:=Qh (Vt k (n k+i));generalize iK k (n k+i)=mt at *;obtain⟨mr,Vu⟩:∃ x,x=rh k (n k+i):=⟨_,rfl⟩
       have HMR:=Qh Vu;have HME:Hid (fS mr=[.int .i64 (-7),.string ⟨mt.toArray⟩]):=Qh (by rw[Vu];exact HMK.o);have nY:=Qh (ajd (n k) i LW jV);clear hc hcl hv gW hb1 hsc kH cV Vu LW;go_wp2_with (at_builtin;go_loud (refine Vv LX (marksOf rh k (n k+i)) mr hc1.cur hc1.a.cL hB (by rw[iX];exact nY.o) ?_ (hy:=by rw[HME.o]) (hlen:=IM _) (hone:=by rw[HME.o];simp[Value.oneCell'])))
       intro v' w2 ho2 hb2 hg2 hv2 Dx;rw[HMR.o]at ho2;have hc2:=hc1.step hne IM hlt ho2 hb2 hg2 hv2 Dx;clear hc1 ho2 hb2 hg2 hv2 Dx;go_wp2
       go_roundw;case rel=>exact⟨i+1,ae,bL,hc2⟩
       case measure=>exact bY
      ·obtain rfl:i=64:=by omega
       go_wp2_with (at_builtin;go_loud (refine iL aje ((List.range k).map G) (.slice ac (n k+64) cc) hc.gs hc.a.cL hB cO ?_ (hone:=Ii)))
       intro v' w2 ho2 hb2 hg2 hv2;have hb3:=hc.leave hne ho2 hb2 hg2 hv2;clear hc ho2 hb2 hg2 hv2 hsc;go_wp2
       go_roundw;case rel=>exact⟨k+1,_,ae,bL,hb3⟩
       case measure=>exact bY
    ·have gO:m=k:=ae;subst gO;clear cV;go_wp2_with fail;go_loopw [9] (fun v wr=>∃ k:Nat,k≤m∧v=.int .i64 (k:Nat)∧mS fS 2 45 41 base m vs (.slice al m cl) w rh n m G (.slice ag m cg) wr) (fun v _=>m - (intOf v).toNat)
     case atStart=>exact H8
     case round=>
      clear hb hlt hk;obtain⟨k,hk,rfl,hb⟩:=hrel;by_cases hlt:k < m
      ·go_wp2_with fail;obtain⟨bg,og,rfl,rV⟩:=hb.IP hlt;obtain⟨bl,ol,rfl,hcl⟩:=hb.a.IQ hlt;clear rV hcl;go_loopw [10] (fun v wr=>∃ i:Nat,i≤n k+64∧v=.int .i64 (i:Nat)∧mS fS 2 45 41 base m vs (.slice (some ⟨bl,ol,none⟩) m cl) w rh n m G (.slice (some ⟨bg,og,none⟩) m cg) wr) (fun v _=>n k+64 - (intOf v).toNat)
       case atStart=>exact H8
       case round=>
        clear hb;obtain⟨i,hi,rfl,hb⟩:=hrel;obtain⟨ga,gc,tC,cV⟩:=(hb.xI k hlt).shape;rw[iX]at tC;obtain⟨bg',og',e1,rV⟩:=hb.IP hlt;cases e1
        rw[tC]at rV;have LY:=cV.len;rw[iX]at LY;by_cases jV:i < n k+64
        ·go_wp2_with fail;refine(Vr k i ae LC _).mono ?_;rintro e w1 ⟨rfl,hb1⟩;go_wp2_with fail;have hb2:=aH (aC wr.heap.size wr) hb1 af;have hb3:=hb2.alloc hb2.size (.cells #[.int .i64 (-7),.string ⟨(iK k i).toArray⟩] 45);have hc0:(w1.alloc (.cells #[.int .i64 (-7),.string ⟨(iK k i).toArray⟩] 45)).cell? ⟨w1.heap.size,0,none⟩=some (.int .i64 (-7)):=(by go_simp);have hc1:(w1.alloc (.cells #[.int .i64 (-7),.string ⟨(iK k i).toArray⟩] 45)).cell? ⟨w1.heap.size,1,none⟩=some (.string ⟨(iK k i).toArray⟩):=(by go_simp);have auN:w1.heap.size < (w1.alloc (.cells #[.int .i64 (-7),.string ⟨(iK k i).toArray⟩] 45)).heap.size:=aB;have ix:=hb.keep hB hb3;have ajg:=dx rV hb3;have FD:=cV.keep hb3 af;clear hb rV cV hb1 hb2 hb3;generalize w1.alloc (.cells #[.int .i64 (-7),.string ⟨(iK k i).toArray⟩] 45)=w3 at *;obtain⟨bq,oq,rfl,hbq,hg0,iY⟩:=LZ.at FD (k:=i) (by rw[iX];exact jV);have hmk:=Vt k i;rw[IU]at hg0 iY;replace hg0:w3.cell? ⟨bq,oq+i*2,none⟩=some (.int .i64 (-7)):=hg0;replace iY:w3.cell? ⟨bq,oq+i*2+1,none⟩=some (.string ⟨(iK k i).toArray⟩):=iY;obtain⟨IK,IL,e1,hcl⟩:=ix.a.IQ hlt;cases e1
         obtain⟨av,cv,hv,gW⟩:=(ix.a.own k hlt).shape;rw[iX]at hv;rw[hv]at hcl;have hlv:=gW.len;rw[iX]at hlv;by_cases hin:(i:Int) < n k
         ·obtain⟨bv,ov,rfl,Dy,hl0,kJ⟩:=LZ.at gW (k:=i) (by rw[iX];omega);rw[IU]at hl0 kJ;replace hl0:w3.cell? ⟨bv,ov+i*2,none⟩=some (.int .i64 (-7)):=hl0;replace kJ:w3.cell? ⟨bv,ov+i*2+1,none⟩=some (.string ⟨(iK k i).toArray⟩):=kJ;clear hmk FD gW tC hv;go_wp2_with fail;go_quiet (fail)
          go_wp2_with fail;go_roundw;case rel=>exact⟨i+1,ae,bL,ix.keep hB (Go.below_drewN (aC _ _) _)⟩
          case measure=>exact bY
         ·have hdec:decide (i < n k)=false:=dU ae;clear hmk FD gW tC hv;go_wp2_with fail;go_quiet (fail)
          go_wp2_with fail;go_roundw;case rel=>exact⟨i+1,ae,bL,ix.keep hB (Go.below_drewN (aC _ _) _)⟩
          case measure=>exact bY
        ·obtain rfl:i=n k+64:=by omega
         go_wp2_with fail;go_roundw;case rel=>exact⟨k+1,ae,bL,hb⟩
         case measure=>exact bY
      ·exact UU
end Go.Proofs.YtfflljgnpfldfaaGreatDoor
