/-
  Are two databases the same? Contracts of the reference's looks, at equal data. (Printed by gen_sam.py.)
-/
import Derived.Test.YtfflljgnpfldfaaGreatDoorRedK
import Derived.Test.YtfflljgnpfldfaaGreatDoorRlxH
set_option linter.all false
set_option maxHeartbeats 128000000
set_option maxRecDepth 100000
namespace Go.Proofs.YtfflljgnpfldfaaGreatDoor
open Go.Proofs.Tryz
open Go.RowKit
structure Qf (d:aS):Prop where
 nn:d.aR.names.length≤4000000
 mm:d.msgs.length≤4000000
 ms:∀ m∈d.msgs,m.sigs.length≤4000000∧∀ s∈m.sigs,s.rs.length≤4000000
 tt:d.tabs.length≤4000000
 ts:∀ t∈d.tabs,t.rows.length≤4000000
theorem aS.nO (d:aS) (u v z:Value):(d.cells u v z).size=9:=rfl
theorem aS.cells_one (d:aS) (a b c:Option Addr) (n1 n2 n3 c1 c2 c3:Nat):(d.cells (.slice a n1 c1) (.slice b n2 c2) (.slice c n3 c3)).all (·.oneCell')=true:=by unfold aS.cells;simp[Value.oneCell']
theorem aS.ak1 (d:aS) (u v z y:Value):(d.cells u v z).setIfInBounds 7 y=d.cells u y z:=rfl
theorem aS.ak2 (d:aS) (u v z y:Value):(d.cells u v z).setIfInBounds 8 y=d.cells u v y:=rfl
theorem aS.ak3 (d:aS) (u v z y:Value):(((d.cells u v z).setIfInBounds 4 (.int .i64 d.aR.line)).setIfInBounds 5 (.int .i64 d.aR.ak)).setIfInBounds 6 y=d.cells y v z:=rfl
theorem aS.ak4 (d:aS) (u v z:Value):(d.cells u v z)[4]? = some (.int .i64 d.aR.line):=rfl
theorem aS.ak5 (d:aS) (u v z:Value):(d.cells u v z)[5]? = some (.int .i64 d.aR.ak):=rfl
theorem aS.ak6 (d:aS) (u v z:Value):(d.cells u v z)[6]? = some u:=rfl
theorem aS.ak7 (d:aS) (u v z:Value):(d.cells u v z)[7]? = some v:=rfl
theorem aS.ak8 (d:aS) (u v z:Value):(d.cells u v z)[8]? = some z:=rfl
abbrev bf:Array Value:=#[.bool false,.int .i64 0,.int .i64 0,.string ⟨#[]⟩,.int .i64 0,.int .i64 0,.slice none 0 0,.slice none 0 0,.slice none 0 0]
theorem Fg:(prog.info? 33).map (fun i=>(i.zero,i.size))=some (some (.agg bf),9):=aj
theorem jw:(prog.info? 33).map (·.size)=some 9:=aj
theorem ai.wg {w w':World} {k:Nat} {C:Array Value} {T:TypeId} (h:w.heap[k]? = some (.cells C T)) (hb:Below w.heap.size w w'):w'.heap[k]? = some (.cells C T):=by
 rw[hb.block k (gE h)];exact h
theorem setCell_at {w:World} {k:Nat} {C:Array Value} {T:TypeId} (h:w.heap[k]? = some (.cells C T)) (j:Nat) (v:Value):(w.setCell ⟨k,j,none⟩ v).heap[k]? = some (.cells (C.setIfInBounds j v) T):=by
 exact Pd
theorem pX {B:Nat} {a w:World} (h:Below B a w) {k:Nat} (hk:B≤k) (j:Nat) (v:Value):Below B a (w.setCell ⟨k,j,none⟩ v):=h.setCell (by show B≤k;exact hk) v
theorem mV {w:World} {k g:Nat} {o:Option Obj} (h:w.heap[g]? = o) (hk:g≠k) (j:Nat) (v:Value):(w.setCell ⟨k,j,none⟩ v).heap[g]? = o:=(dN _ _ _ _ hk).trans h
theorem aG.setAt {α:Type} {w:World} {base:Nat} {e T:TypeId} {size:Nat} {en:α→List Value} {u:Value} {xs:List α} (h:aG w base e size en u xs) {k:Nat} {C:Array Value} (hk:w.heap[k]? = some (.cells C T)) (he:e≠T) (j:Nat) (v:Value):aG (w.setCell ⟨k,j,none⟩ v) base e size en u xs:=
 h.dn he hk (fun b _ hne=>dN _ _ _ _ hne)
theorem aZ.setAt {α:Type} {rd:World→α→List Value→Prop} {w:World} {base:Nat} {e T:TypeId} {size:Nat} {u:Value} {xs:List α} (h:aZ w base e rd size u xs) {k:Nat} {C:Array Value} (hk:w.heap[k]? = some (.cells C T)) (he:e≠T) (ha:kI rd T) (j:Nat) (v:Value):aZ (w.setCell ⟨k,j,none⟩ v) base e rd size u xs:=
 h.dn he ha hk pR (fun b _ hne=>dN _ _ _ _ hne)
theorem ajW (x:aS) (hf:Qf x) (w:World) (cs:Array Value) (hx:rf w x cs.toList) (B:Nat) (hB:B≤w.heap.size) :
  Calls prog 78 #[.agg cs] w fun e w'=>∃ C:Array Value,e=.returned (.agg C)∧(tB B) w' x C.toList∧Below w.heap.size w w':=by
 obtain⟨a,cap,b,cb,c,cc,iu,hs,hm,ht⟩:=hx;obtain rfl:cs=x.cells (.slice a x.aR.names.length cap) (.slice b x.msgs.length cb) (.slice c x.tabs.length cc):=eA.1 iu;clear iu;have C1:=Qh (fun W (hb:Below w.heap.size w W)=>akZ x.msgs x.msgs.length rfl b cb W (hm.keep iE hb) (by have:=hf.mm;omega) (fun m h=>⟨by have:=(hf.ms m h).1;omega,fun s hs=>by have:=(hf.ms m h).2 s hs;omega⟩) B (bQ hB hb.size));have C2:=Qh (fun W (hb:Below w.heap.size w W)=>ak0 x.tabs x.tabs.length rfl c cc W (ht.keep jP hb) (by have:=hf.tt;omega) (fun t h=>by have:=hf.ts t h;omega) B (bQ hB hb.size));have C3:=Qh (fun W (hb:Below w.heap.size w W)=>akY x.aR W #[.int .i64 x.aR.line,.int .i64 x.aR.ak,.slice a x.aR.names.length cap] ⟨a,cap,rfl,hs.keep hb af⟩ (by have:=hf.nn;omega) B (bQ hB hb.size));clear hs hm ht;obtain⟨n1,gA⟩:∃ n,x.aR.names.length=n:=⟨_,rfl⟩
 obtain⟨n2,wj⟩:∃ n,x.msgs.length=n:=⟨_,rfl⟩
 obtain⟨n3,tJ⟩:∃ n,x.tabs.length=n:=⟨_,rfl⟩
 rw[gA]at C3;rw[wj]at C1;rw[tJ]at C2;rw[gA,wj,tJ];refine aY gA wj tJ ?_;intro tH Mr HN3;clear gA wj tJ;refine aY (aS.ak1 x) (aS.ak2 x) (aS.ak3 x) ?_;intro E7 E8 E6;refine aY (aS.cells_one x) (aS.nO x) (aS.ak4 x) ?_;intro EO EZ G4;refine lC (aS.ak5 x) (aS.ak6 x) (aS.ak7 x) (aS.ak8 x) ?_;intro G5 G6 G7 G8;have HF:Hid (∀ w' u v z,aG w' B 9 1 dr u x.aR.names→aZ w' B 39 (jK B) 8 v x.msgs→aZ w' B 43 (nN B) 6 z x.tabs→(tB B) w' x (x.cells u v z).toList):=Qh (fun w' u v z h1 h2 h3=>⟨u,v,z,rfl,h1,h2,h3⟩);have HST:Hid (∀ w' (D:Array Value),(QR B) w' x.aR D.toList→∃ v,D=#[.int .i64 x.aR.line,.int .i64 x.aR.ak,v]∧aG w' B 9 1 dr v x.aR.names):=Qh (fun w' D ⟨v,h1,h2⟩=>⟨v,eA.1 h1,h2⟩);generalize x.cells=F at *;have e0:=EZ.o (.slice a n1 cap) (.slice b n2 cb) (.slice c n3 cc);have e1:=EO.o a b c n1 n2 n3 cap cb cc;have k4:=G4.o (.slice a n1 cap) (.slice b n2 cb) (.slice c n3 cc);have k5:=G5.o (.slice a n1 cap) (.slice b n2 cb) (.slice c n3 cc);have k6:=G6.o (.slice a n1 cap) (.slice b n2 cb) (.slice c n3 cc);have k7:=G7.o (.slice a n1 cap) (.slice b n2 cb) (.slice c n3 cc);have k8:=G8.o (.slice a n1 cap) (.slice b n2 cb) (.slice c n3 cc);have E7':=Qh (E7.o (.slice a n1 cap) (.slice b n2 cb) (.slice c n3 cc));generalize hC:F (.slice a n1 cap) (.slice b n2 cb) (.slice c n3 cc)=C at *;have HC:=Qh hC;clear hC;obtain⟨zb,zz,hz2,gw⟩:=rj w C bf 33 33;have hu:=underlying33;have hb3:Below w.heap.size w (((w.alloc (.cells C 33)).alloc (.cells bf 33)).alloc (.cells C 33)):=gw.alloc cO _;have bT:=Qh hb3;have K2:=Qh (show(((w.alloc (.cells C 33)).alloc (.cells bf 33)).alloc (.cells C 33)).heap[w.heap.size+1]? = some (.cells bf 33)by rw[zG _ _ _ aB];simpa using dK (w.alloc (.cells C 33)) (.cells bf 33));have K3:=Qh (show(((w.alloc (.cells C 33)).alloc (.cells bf 33)).alloc (.cells C 33)).heap[w.heap.size+1+1]? = some (.cells C 33)by simpa using dK ((w.alloc (.cells C 33)).alloc (.cells bf 33)) (.cells C 33));have Z1:=Qh (zb.alloc (.cells C 33));have K1:=k7;have K7:=Qh (show C[7]? = some (.slice b n2 cb)from k7);have g7:∀ h,C[7]'h=.slice b n2 cb:=fun h=>by have:=k7;rw[Array.getElem?_eq_getElem h]at this;exact Option.some.inj this
 generalize x.aR.line=SL at *;generalize x.aR.ak=SC at *;generalize x.aR=XS at *;go_enter func78,ntmps78
 go_wp2_with (first|(refine fG zb 33 (.tmp 1) hu (by rw[e0];exact jw) ?_)|(refine eX (Z:=bf) (cs:=C) 33 (.tmp 3) (.tmp 4) (by rw[e0];exact Fg) (by rw[e0];rfl) e1 ?_))
 refine jH (C1.o _ hb3) ?_;intro w1 v ho hb
 clear hb3 zb zz hz2 gw;have hb1:=aH bT.o hb af;obtain⟨a2,c2,hv,-⟩:=ho.shape;rw[Mr.o]at hv;subst hv;have z1:=Z1.o.keep hb af;have k2:=ai.wg K2.o hb;have k3:=ai.wg K3.o hb;have f0:=zI w1 (w.heap.size+1+1) 7 C 33 (0,0) k3;rw[K7.o]at f0;have f1:w1.frozen? ⟨w.heap.size+1+1,7,none⟩=false:=ai.free ⟨_,k3⟩ 7;have g8:=z1.cell 8 _ k8;have HO:=Qh ho;clear hb ho g7 k7;refine fx hb1 z1 k2 k3 ?_;clear hb1 z1 k2 k3;intro bX k9 sj FX;go_wp2_with fail;have hb2:Below w.heap.size w (w1.setCell ⟨w.heap.size+2,7,none⟩ (.slice a2 n2 c2)):=bX.o.setCell (by show w.heap.size≤w.heap.size+2;omega) _;refine jH (C2.o _ hb2) ?_;intro w2 v ho hb
 have aM:=Qh (aH hb2 hb af);have qC:=Qh (bQ hB hb2.size);have z1:=(k9.o.other (a:=⟨w.heap.size+2,7,none⟩) (show w.heap.size+2≠w.heap.size by omega) (.slice a2 n2 c2)).keep hb af;have k2:=ai.wg (mV sj.o (show w.heap.size+1≠w.heap.size+2 by omega) 7 (.slice a2 n2 c2)) hb;have k3:=ai.wg (setCell_at FX.o 7 (.slice a2 n2 c2)) hb;have HM:=Qh (((HO.o.setAt FX.o ah (lu B ah ah) 7 (.slice a2 n2 c2)).keep (qQ B) hb).fU (bQ hB bT.o.size));rw[E7'.o]at k3;obtain⟨a3,c3,hv,-⟩:=ho.shape;rw[HN3.o]at hv;subst hv;have f0:=zI w2 (w.heap.size+2) 8 _ 33 (0,0) k3;rw[G8.o]at f0;have f1:w2.frozen? ⟨w.heap.size+2,8,none⟩=false:=ai.free ⟨_,k3⟩ 8;have g4:=z1.cell 4 _ k4;have g5:=z1.cell 5 _ k5;have g6:=z1.cell 6 _ k6;clear hb hb2 g8 sj FX HO k9 bX;refine fx ho z1 k2 k3 ?_;clear z1 k2 k3 ho;intro HOT bC ak9 VX;generalize w1.setCell ⟨w.heap.size+2,7,none⟩ (.slice a2 n2 c2)=w1' at *;go_wp2_with fail;have hb2:Below w.heap.size w (w2.setCell ⟨w.heap.size+2,8,none⟩ (.slice a3 n3 c3)):=aM.o.setCell (by show w.heap.size≤w.heap.size+2;omega) _;refine jH (C3.o _ hb2) ?_;intro w3 D dP hb
 have ala:=Qh (aH hb2 hb af);obtain⟨v,rfl,ho⟩:=HST.o _ _ dP;obtain⟨a4,c4,hv,-⟩:=ho.shape;rw[tH.o]at hv;subst hv;have k2:=ai.wg (mV ak9.o (show w.heap.size+1≠w.heap.size+2 by omega) 8 (.slice a3 n3 c3)) hb;have k3:=ai.wg (setCell_at VX.o 8 (.slice a3 n3 c3)) hb;rw[E8.o]at k3;have hm:=(HM.o.setAt VX.o ah (lu B ah ah) 8 (.slice a3 n3 c3)).keep (qQ B) hb;have ht:=((HOT.o.setAt VX.o ah (mQ B ah) 8 (.slice a3 n3 c3)).keep (sf B) hb).fU qC.o;have f4:=zI w3 (w.heap.size+2) 4 _ 33 (0,0) k3;rw[G4.o]at f4;have f5:=zI w3 (w.heap.size+2) 5 _ 33 (0,0) k3;rw[G5.o]at f5;have f6:=zI w3 (w.heap.size+2) 6 _ 33 (0,0) k3;rw[G6.o]at f6;have f4f:w3.frozen? ⟨w.heap.size+2,4,none⟩=false:=ai.free ⟨_,k3⟩ 4;have f5f:w3.frozen? ⟨w.heap.size+2,5,none⟩=false:=ai.free ⟨_,k3⟩ 5;have f6f:w3.frozen? ⟨w.heap.size+2,6,none⟩=false:=ai.free ⟨_,k3⟩ 6;have j3:=setCell_at (setCell_at (setCell_at k3 4 (.int .i64 SL)) 5 (.int .i64 SC)) 6 (.slice a4 n1 c4);have j2:=mV (mV (mV k2 (show w.heap.size+1≠w.heap.size+2 by omega) 4 (.int .i64 SL)) (show w.heap.size+1≠w.heap.size+2 by omega) 5 (.int .i64 SC)) (show w.heap.size+1≠w.heap.size+2 by omega) 6 (.slice a4 n1 c4);rw[E6.o]at j3;have Mt:=((hm.setAt k3 ah (lu B ah ah) 4 (.int .i64 SL)).setAt (setCell_at k3 4 (.int .i64 SL)) ah (lu B ah ah) 5 (.int .i64 SC)).setAt (setCell_at (setCell_at k3 4 (.int .i64 SL)) 5 (.int .i64 SC)) ah (lu B ah ah) 6 (.slice a4 n1 c4);have DV:=((ht.setAt k3 ah (mQ B ah) 4 (.int .i64 SL)).setAt (setCell_at k3 4 (.int .i64 SL)) ah (mQ B ah) 5 (.int .i64 SC)).setAt (setCell_at (setCell_at k3 4 (.int .i64 SL)) 5 (.int .i64 SC)) ah (mQ B ah) 6 (.slice a4 n1 c4);have Jd:=((ho.setAt k3 ah 4 (.int .i64 SL)).setAt (setCell_at k3 4 (.int .i64 SL)) ah 5 (.int .i64 SC)).setAt (setCell_at (setCell_at k3 4 (.int .i64 SL)) 5 (.int .i64 SC)) ah 6 (.slice a4 n1 c4);have hb5:=pX (pX (pX ala.o (show w.heap.size≤w.heap.size+2 by omega) 4 (.int .i64 SL)) (show w.heap.size≤w.heap.size+2 by omega) 5 (.int .i64 SC)) (show w.heap.size≤w.heap.size+2 by omega) 6 (.slice a4 n1 c4);refine aY Mt DV Jd ?_;intro HM' HT' HO';have J3:Hid (ai _ (w.heap.size+2) _):=Qh ⟨_,j3⟩;have J2:Hid (ai _ (w.heap.size+1) _):=Qh ⟨_,j2⟩;have ir:=Qh hb5;have VY:=Qh j2;have q0:=EZ.o (.slice a4 n1 c4) (.slice a2 n2 c2) (.slice a3 n3 c3);have q1:=EO.o a4 a2 a3 n1 n2 n3 c4 c2 c3;clear Mt DV Jd hb5 j3 j2 hm ht ho hb hb2 k2 k3 dP g4 g5 g6;generalize hD:F (.slice a4 n1 c4) (.slice a2 n2 c2) (.slice a3 n3 c3)=D at *;have HD:=Qh hD;clear hD;go_wp2_with (first|(refine fG J3.o 33 (.tmp 3) hu Ip ?_)|(refine iC J2.o 33 (.tmp 2) (.tmp 17) Ip zr q1 ?_))
 have hrun:=fo (J2.o.row D) 33 _ hu rfl Ip;have bR:=pL ir.o (show w.heap.size≤w.heap.size+1 by omega) D;refine bB (v:=.agg D) (by simp[results,results78,Act.put,asAddr,hrun]) rfl ⟨D,rfl,?_,bR⟩;rw[← HD.o];refine HF.o _ _ _ _ ?_ ?_ ?_
 ·exact aG.dn HO'.o ah VY.o (fun b _ hne=>gK _ _ _ _ hne)
 ·exact aZ.dn HM'.o ah (lu B ah ah) VY.o qX (fun b _ hne=>gK _ _ _ _ hne)
 ·exact aZ.dn HT'.o ah (mQ B ah) VY.o qX (fun b _ hne=>gK _ _ _ _ hne)
open Go.RowKit Go.Shelf
def qE (ts:List aw):PR (Bool×zQ):=
 if dt [86,69,82,83,73,79,78] ts then (dJ 3 ts.tail).bind fun x aJ=>(dQ aJ).bind fun _ iU=>.ok (true,⟨(ax ts).line,(ax ts).ak,x.text⟩) iU else .ok (false,⟨0,0,[]⟩) ts
def jl:Nat→List bj→List aw→PR (List bj)
 | 0,l,ts=>.ok l ts
 | f+1,l,ts=>if dt [66,79,95] ts then (if l.length=512 then eY 5 ts else (my ts).bind fun m aJ=>(dQ aJ).bind fun _ iU=>jl f (l++[m]) iU) else .ok l ts
def jC:Nat→List bK→List aw→PR (List bK)
 | 0,l,ts=>.ok l ts
 | f+1,l,ts=>if dt [86,65,76,95] ts then (mC ts).bind fun m aJ=>(dQ aJ).bind fun _ iU=>jC f (l++[m]) iU else .ok l ts
def uQ (d:aS) (ts:List aw):PR aS:=if (ax ts).kind=0 then .ok d ts else iy ts
def mq (ts:List aw):PR aS:=
 (dQ ts).bind fun _ ts=>(qE ts).bind fun v ts=>(cj [66,85,95] ts).bind fun t ts=>(cj [58] ts).bind fun _ ts=>
 (jr ts.length [] ts).bind fun ns ts=>(dQ ts).bind fun _ ts=>(jl ts.length [] ts).bind fun ms ts=>
 (jC ts.length [] ts).bind fun tb ts=>uQ ⟨v.1,v.2,⟨t.line,t.ak,ns⟩,ms,tb⟩ ts
def bI (d:aS):List aX:=(if d.has then [.bG d.bG] else [])++(.aR d.aR::(d.msgs.map .msg++d.tabs.map .tab))
def PR.map {α β:Type} (g:α→β):PR α→PR β
 | .ok x t=>.ok (g x) t
 | .bad a b c=>.bad a b c
theorem arO (ts:List aw):NU ts=(qE ts).map fun v=>if v.1 then [.bG v.2] else []:=by
 unfold NU qE;split
 ·cases dJ 3 ts.tail with
  | bad a b c=>rfl
  | ok x t=>
   simp only[PR.ku];cases dQ t<;>rfl
 ·rfl
theorem ahu (pre:List aX):∀ (f:Nat) (l:List bj) (ts:List aw),yN f l.length (pre++l.map .msg) ts=(jl f l ts).map fun r=>pre++r.map .msg
 | 0,l,ts=>rfl
 | f+1,l,ts=>by
  unfold yN jl;split
  ·split
   ·rfl
   ·cases my ts with
    | bad a b c=>rfl
    | ok m t=>
     simp only[PR.ku];cases dQ t with
     | bad a b c=>rfl
     | ok u t2=>
      simp only[PR.ku];have:=ahu pre f (l++[m]) t2;simp only[ey,dz,lF,vO,zH,BC,kF]at this;rw[o6];exact this
  ·rfl
theorem ahv (pre:List aX):∀ (f:Nat) (l:List bK) (ts:List aw),yO f (pre++l.map .tab) ts=(jC f l ts).map fun r=>pre++r.map .tab
 | 0,l,ts=>rfl
 | f+1,l,ts=>by
  unfold yO jC;split
  ·cases mC ts with
   | bad a b c=>rfl
   | ok m t=>
    simp only[PR.ku];cases dQ t with
    | bad a b c=>rfl
    | ok u t2=>
     simp only[PR.ku];have:=ahv pre f (l++[m]) t2;simp only[vO,zH,BC]at this;rw[o6];exact this
  ·rfl
theorem VZ (ts:List aw):zY ts=(mq ts).map bI:=by
 unfold zY mq;cases dQ ts with
 | bad a b c=>rfl
 | ok u0 ts=>
 simp only[PR.ku];rw[arO];cases qE ts with
 | bad a b c=>rfl
 | ok v ts=>
 simp only[PR.ku,PR.map];cases cj [66,85,95] ts with
 | bad a b c=>rfl
 | ok t ts=>
 simp only[PR.ku];cases cj [58] ts with
 | bad a b c=>rfl
 | ok t1 ts=>
 simp only[PR.ku];cases jr ts.length [] ts with
 | bad a b c=>rfl
 | ok ns ts=>
 simp only[PR.ku];cases dQ ts with
 | bad a b c=>rfl
 | ok u1 ts=>
 simp only[PR.ku];have h1:=ahu ((if v.1 then [aX.bG v.2] else [])++[aX.aR ⟨t.line,t.ak,ns⟩]) ts.length [] ts;rw[BC,pT,lF]at h1;rw[h1];cases jl ts.length [] ts with
 | bad a b c=>rfl
 | ok ms ts=>
 simp only[PR.ku,PR.map];have h2:=ahv ((if v.1 then [aX.bG v.2] else [])++[aX.aR ⟨t.line,t.ak,ns⟩]++ms.map aX.msg) ts.length [] ts;rw[BC,pT]at h2;rw[h2];cases jC ts.length [] ts with
 | bad a b c=>rfl
 | ok tb ts=>
 simp only[PR.ku,PR.map];unfold Cu uQ iy eY bI;split
 ·simp
 ·rfl
theorem bind_assoc {α β γ:Type} (r:PR α) (f:α→List aw→PR β) (g:β→List aw→PR γ):(r.bind f).bind g=r.bind fun x ts=>(f x ts).bind g:=by
 cases r<;>rfl
theorem Hb {α:Type} {ts:List aw} {d:α} {p p':List aw→PR α} (h:p ts=p' ts):(aF.ok ts).run d p=(aF.ok ts).run d p':=by
 unfold aF.run;simp only[h]
theorem arP {β:Type} {st:aF} {f:Nat} {l:List (List UInt8)} (d:β) (KF:List (List UInt8)→List aw→PR β) (hf:∀ ts,st=.ok ts→1≤f) (h:st.named=false):st.run d (fun ts=>(jr f l ts).bind KF)=st.run d (KF l):=by
 cases st with
 | bad n l c=>rfl
 | ok ts=>
  obtain⟨f',rfl⟩:∃ f',f=f' + 1:=⟨f - 1,Io⟩
  have h:p8 ts=false:=h;refine Hb ?_;show(jr (f' + 1) l ts).bind KF=KF l ts;rw[show jr (f' + 1) l ts=.ok l ts by unfold jr;rw[if_neg (by rw[h];decide)]];rfl
theorem arQ {β:Type} {ts:List aw} {f:Nat} {l:List (List UInt8)} (d:β) (KF:List (List UInt8)→List aw→PR β) (h:p8 ts=true):(aF.ok ts).run d (fun ts=>(jr (f+1) l ts).bind KF)=((aF.ok ts).run [] ee).2.run d (fun tz=>(jr f (l++[((aF.ok ts).run [] ee).1]) tz).bind KF):=by
 have e:=run_bind (aF.ok ts) [] d ee (fun nm tz=>(jr f (l++[nm]) tz).bind KF);rw[← e];refine Hb ?_;show(jr (f+1) l ts).bind KF=_;have ht:jr (f+1) l ts=(ee ts).bind fun nm aJ=>jr f (l++[nm]) aJ:=by
  conv=>lhs;unfold jr
  rw[if_pos h]
 rw[ht];exact bind_assoc _ _ _
theorem arR {β:Type} {st:aF} (d:β) (KF:Bool×zQ→List aw→PR β) (h:∀ ts,st=.ok ts→dt [86,69,82,83,73,79,78] ts=false):st.run d (fun ts=>(qE ts).bind KF)=st.run d (KF (false,⟨0,0,[]⟩)):=by
 cases st with
 | bad n l c=>rfl
 | ok ts=>
  refine Hb ?_;show(qE ts).bind KF=_;rw[show qE ts=.ok (false,⟨0,0,[]⟩) ts by unfold qE;rw[if_neg LD]];rfl
theorem arS {β:Type} {ts:List aw} (d:β) (KF:Bool×zQ→List aw→PR β) (h:dt [86,69,82,83,73,79,78] ts=true) :
  (aF.ok ts).run d (fun ts=>(qE ts).bind KF)=(aF.ok ts.tail).run d (fun tz=>(dJ 3 tz).bind fun x tz=>(dQ tz).bind fun _ tz=>KF (true,⟨(ax ts).line,(ax ts).ak,x.text⟩) tz):=by
 refine nD ?_;rw[show qE ts=(dJ 3 ts.tail).bind fun x aJ=>(dQ aJ).bind fun _ iU=>.ok (true,⟨(ax ts).line,(ax ts).ak,x.text⟩) iU by unfold qE;rw[if_pos h]];rw[bind_assoc];simp only[bind_assoc,PR.ku]
theorem arT {β:Type} {st:aF} {f:Nat} {l:List bj} (d:β) (KF:List bj→List aw→PR β) (hf:∀ ts,st=.ok ts→1≤f) (h:∀ ts,st=.ok ts→dt [66,79,95] ts=false):st.run d (fun ts=>(jl f l ts).bind KF)=st.run d (KF l):=by
 cases st with
 | bad n l c=>rfl
 | ok ts=>
  obtain⟨f',rfl⟩:∃ f',f=f' + 1:=⟨f - 1,Io⟩
  refine Hb ?_;show(jl (f' + 1) l ts).bind KF=KF l ts;rw[show jl (f' + 1) l ts=.ok l ts by unfold jl;rw[if_neg LD]];rfl
theorem arU {β:Type} {ts:List aw} {f:Nat} {l:List bj} (d:β) (KF:List bj→List aw→PR β) (h:dt [66,79,95] ts=true) (hl:l.length=512):(aF.ok ts).run d (fun ts=>(jl (f+1) l ts).bind KF)=(d,(aF.ok ts).ko 5):=by
 refine nD ?_;rw[show jl (f+1) l ts=eY 5 ts by unfold jl;rw[if_pos h,if_pos hl]];rfl
theorem ahw {α β:Type} {q:aF} (x y:α) (hx:q.isOk→x=y) (d:β) (F:α→List aw→PR β):(q.run () dQ).2.run d (F x)=(q.run () dQ).2.run d (F y):=by
 by_cases h:q.isOk
 ·rw[hx h]
 ·cases q with
  | ok ts=>exact absurd trivial h
  | bad a b c=>rfl
theorem arV {β:Type} {ts:List aw} {f:Nat} {l:List bj} (d:β) (KF:List bj→List aw→PR β) (h:dt [66,79,95] ts=true) (hl:l.length≠512) (x:bj) (hx:((aF.ok ts).run lB my).2.isOk→((aF.ok ts).run lB my).1=x) :
  (aF.ok ts).run d (fun ts=>(jl (f+1) l ts).bind KF)=(((aF.ok ts).run lB my).2.run () dQ).2.run d (fun tz=>(jl f (l++[x]) tz).bind KF):=by
 have e:=run_bind (aF.ok ts) lB d my (fun m tz=>(dQ tz).bind fun _ tz=>(jl f (l++[m]) tz).bind KF);rw[run_bind _ () d dQ]at e;rw[← ahw _ _ hx d (fun m tz=>(jl f (l++[m]) tz).bind KF),← e];refine Hb ?_;show(jl (f+1) l ts).bind KF=_;have ht:jl (f+1) l ts=(my ts).bind fun m aJ=>(dQ aJ).bind fun _ iU=>jl f (l++[m]) iU:=by
  conv=>lhs;unfold jl
  rw[if_pos h,if_neg hl]
 rw[ht];simp only[bind_assoc]
theorem arW {β:Type} {st:aF} {f:Nat} {l:List bK} (d:β) (KF:List bK→List aw→PR β) (hf:∀ ts,st=.ok ts→1≤f) (h:∀ ts,st=.ok ts→dt [86,65,76,95] ts=false):st.run d (fun ts=>(jC f l ts).bind KF)=st.run d (KF l):=by
 cases st with
 | bad n l c=>rfl
 | ok ts=>
  obtain⟨f',rfl⟩:∃ f',f=f' + 1:=⟨f - 1,Io⟩
  refine Hb ?_;show(jC (f' + 1) l ts).bind KF=KF l ts;rw[show jC (f' + 1) l ts=.ok l ts by unfold jC;rw[if_neg LD]];rfl
theorem arX {β:Type} {ts:List aw} {f:Nat} {l:List bK} (d:β) (KF:List bK→List aw→PR β) (h:dt [86,65,76,95] ts=true) (x:bK) (hx:((aF.ok ts).run kV mC).2.isOk→((aF.ok ts).run kV mC).1=x) :
  (aF.ok ts).run d (fun ts=>(jC (f+1) l ts).bind KF)=(((aF.ok ts).run kV mC).2.run () dQ).2.run d (fun tz=>(jC f (l++[x]) tz).bind KF):=by
 have e:=run_bind (aF.ok ts) kV d mC (fun m tz=>(dQ tz).bind fun _ tz=>(jC f (l++[m]) tz).bind KF);rw[run_bind _ () d dQ]at e;rw[← ahw _ _ hx d (fun m tz=>(jC f (l++[m]) tz).bind KF),← e];refine Hb ?_;show(jC (f+1) l ts).bind KF=_;have ht:jC (f+1) l ts=(mC ts).bind fun m aJ=>(dQ aJ).bind fun _ iU=>jC f (l++[m]) iU:=by
  conv=>lhs;unfold jC
  rw[if_pos h]
 rw[ht];simp only[bind_assoc]
theorem ahx {α:Type} {ts aJ:List aw} {d:α} {p:List aw→PR α} (hp:pG p) (hb:di ts) (h:(((aF.ok ts).run d p).2.run () dQ).2=.ok aJ):aJ.length < ts.length:=by
 cases hq:((aF.ok ts).run d p).2 with
 | bad a b c=>rw[hq]at h;cases h
 | ok tz=>
  rw[hq]at h;obtain⟨x,h1⟩:=EH hq;obtain⟨y,h2⟩:=EH h;obtain⟨b1,l1⟩:=hp _ _ _ h1 hb;obtain⟨b2,l2⟩:=ZK h2 b1;omega
theorem aaa {ts:List aw} (h:di ts) (hk:(ax ts).kind≠0):2≤ts.length:=by
 have h1:=(h.tail hk).1.pos;rw[sZ]at h1;omega
theorem adY {ts:List aw} (h:p8 ts=true):(ax ts).kind≠0:=by
 unfold p8 at h;intro e;rw[e]at h;simp at h
def yi (wo:World) (r:qG) (e:Ending) (w':World):Prop:=match r with
 | .bad v=>∃ no L C,e=.returned (.tuple #[.agg bf,.int .i64 no,.agg #[.int .i64 L,.int .i64 C]])∧Below wo.heap.size wo w'∧Eo v no L C
 | .good T=>match mq T with
  | .bad no L C=>e=.returned (.tuple #[.agg bf,.int .i64 no,.agg #[.int .i64 L,.int .i64 C]])∧Below wo.heap.size wo w'
  | .ok d _=>∃ D,e=.returned (.tuple #[.agg D,.int .i64 0,.agg #[.int .i64 0,.int .i64 0]])∧tB wo.heap.size w' d D.toList∧Below wo.heap.size wo w'
theorem KP {P:Program} {ops:Array Oper} {C:World→Prop} {Q:Act→Prop} {rest:List Oper} {o:Oper} {a:Act} {k off:Nat} {cs:List Value} (hS:∀ w,C w→w.rangeAt k off cs) (ty:TypeId) (x:Operand) {d:TypeDesc}
  (hu:P.underlying ty=some d) (hi:(P.info? ty).map (·.size)=some cs.length)
  (h:wpQuiet P ops C Q rest (a.put o.dst (.agg cs.toArray)))
  (hgd:o.guard=none:=by rfl) (ho:o.op=.load ty x:=by rfl) (hx:a.eval x=.pointer (some ⟨k,off,none⟩):=by rfl) (hd:d.isRow=true:=by rfl):wpQuiet P ops C Q (o::rest) a:=by
 unfold wpQuiet;refine Ia ?_;exact aaY
theorem aW.range {W:World} {k off:Nat} {cs:List Value} (h:W.rangeAt k off cs) (x:aW W):x.w.rangeAt k off cs:=fun j v hv=>aW.cell (h j v hv) x
theorem ais (l:List (List UInt8)) (n m:Nat) (hn:n=l.length) (hm:m=l.length) (a b:Option Addr) (p q:Nat) (w:World) (hs:bA w dr 1 a p l) (ht:bA w dr 1 b q l) :
  Calls prog 110 #[.slice a n p,.slice b m q] w fun e w'=>e=.returned (.bool true)∧Below w.heap.size w w':=by
 subst hm;subst hn;have h1:=hs.len;have h2:=ht.len;go_enter func110,ntmps110
 go_wp2_with fail;go_loopw [5] (fun x wr=>∃ i:Nat,i≤l.length∧x=.int .i64 (i:Nat)∧Below w.heap.size w wr) (fun x _=>l.length - (intOf x).toNat)
 case atStart=>exact EY
 case round=>
  obtain⟨i,hi,rfl,hb⟩:=hrel;by_cases hlt:(i:Int) < l.length
  ·have a8:i < l.length:=ae;obtain⟨ba,oa,rfl,dC,hc⟩:=xS.at (hs.keep hb af) a8;obtain⟨bb,ob,rfl,gh,hd⟩:=xS.at (ht.keep hb af) a8;generalize l[i]=x at *;go_wp2_with fail;go_quiet (fail)
   go_wp2_with fail;go_roundw;case rel=>exact⟨i+1,ae,bL,Go.below_drewN hb _⟩
   case measure=>exact bY
  ·exact CV
theorem aey (l:List (Int×List UInt8)) (n m:Nat) (hn:n=l.length) (hm:m=l.length) (a b:Option Addr) (p q:Nat) (w:World) (hs:bA w fS 2 a p l) (ht:bA w fS 2 b q l) :
  Calls prog 10 #[.slice a n p,.slice b m q] w fun e w'=>e=.returned (.bool true)∧Below w.heap.size w w':=by
 subst hm;subst hn;have h1:=hs.len;have h2:=ht.len;go_enter func10,ntmps10
 go_wp2_with fail;go_loopw [5] (fun x wr=>∃ i:Nat,i≤l.length∧x=.int .i64 (i:Nat)∧Below w.heap.size w wr) (fun x _=>l.length - (intOf x).toNat)
 case atStart=>exact EY
 case round=>
  obtain⟨i,hi,rfl,hb⟩:=hrel;by_cases hlt:(i:Int) < l.length
  ·have a8:i < l.length:=ae;obtain⟨ba,oa,rfl,dC,hc,hc2⟩:=LZ.at (hs.keep hb af) a8;obtain⟨bb,ob,rfl,gh,hd,p6⟩:=LZ.at (ht.keep hb af) a8;generalize l[i]=x at *;go_wp2_with fail;go_quiet (fail)
   go_wp2_with fail;go_roundw;case rel=>exact⟨i+1,ae,bL,Go.below_drewN hb _⟩
   case measure=>exact bY
  ·exact CV
theorem atj (x:et) (w:World) (cs ds:Array Value) (h1:xU w x cs.toList) (h2:xU w x ds.toList) :
  Calls prog 127 #[.agg cs,.agg ds] w fun e w'=>e=.returned (.bool true)∧Below w.heap.size w w':=by
 obtain⟨a,p,e1,hs⟩:=h1;obtain⟨b,q,e2,ht⟩:=h2;obtain rfl:=eA.1 e1;obtain rfl:=eA.1 e2;clear e1 e2;refine KY ?_;intro hb2
 have HC:=Qh (fun o1 o2=>ais x.rs x.rs.length x.rs.length rfl rfl a b p q _ (hs.keep (hb2 o1 o2) af) (ht.keep (hb2 o1 o2) af));have HB:=Qh hb2;clear hs ht hb2;generalize x.rs.length=n at *;unfold dI.cells;go_enter func127,ntmps127
 exact OP (HC.o _ _)
theorem atk (l:List et) (n m:Nat) (hn:n=l.length) (hm:m=l.length) (a b:Option Addr) (p q:Nat) (w:World) (hs:ei w xU 19 a p l) (ht:ei w xU 19 b q l) :
  Calls prog 79 #[.slice a n p,.slice b m q] w fun e w'=>e=.returned (.bool true)∧Below w.heap.size w w':=by
 subst hm;subst hn;have hmx:l.length≤9223372036854775807:=by
  obtain⟨rows,h1,h2⟩:=hs;have:=h1.len.2.1;have:=h2.len;omega
 have hu:=underlying63;go_enter func79,ntmps79
 go_wp2_with fail;go_loopw [5] (fun x wr=>∃ i:Nat,i≤l.length∧x=.int .i64 (i:Nat)∧Below w.heap.size w wr) (fun x _=>l.length - (intOf x).toNat)
 case atStart=>exact EY
 case round=>
  obtain⟨i,hi,rfl,hb⟩:=hrel;by_cases hlt:(i:Int) < l.length
  ·have a8:i < l.length:=ae;obtain⟨ba,oa,rfl,dC,cs,hcl,ep,hrg⟩:=ei.at (hs.keep BR hb) ah a8;obtain⟨bb,ob,rfl,gh,ds,fY,kW,lX⟩:=ei.at (ht.keep BR hb) ah a8;have c:=fun z:aW wr=>atj l[i] z.w cs.toArray ds.toArray (BR _ _ _ _ ep z.below) (BR _ _ _ _ kW z.below)
   have hsz:(prog.info? 63).map (·.size)=some cs.length:=(by rw[hcl];exact uA);have hsz':(prog.info? 63).map (·.size)=some ds.length:=(by rw[fY];exact uA);have r1:∀ v,(∃ z:aW wr,v=z.w)→v.rangeAt ba (oa+i*19) cs:=PK;have r2:∀ v,(∃ z:aW wr,v=z.w)→v.rangeAt bb (ob+i*19) ds:=PJ;clear ep kW hrg lX hcl fY;go_wp2_with fail;refine rL ?_
   repeat (first|(refine KP r1 63 (.tmp 19) hu hsz ?_;simp only[Act.put,nI,oZ,ox])|(refine KP r2 63 (.tmp 23) hu hsz' ?_;simp only[Act.put,nI,oZ,ox])|go_big_quiet_step ((go_at_call 127;with_reducible exact aW.made (c _))))
   refine uk ?_;intro z;have hb2:=aH hb z.below af;generalize z.w=w3 at *;clear c r1 r2;go_wp2_with fail;go_roundw;case rel=>exact⟨i+1,ae,bL,hb2⟩
   case measure=>exact bY
  ·exact CV
theorem KZ (x:bj) (w:World) (cs ds:Array Value) (h1:ru w x cs.toList) (h2:ru w x ds.toList) :
  Calls prog 32 #[.agg cs,.agg ds] w fun e w'=>e=.returned (.bool true)∧Below w.heap.size w w':=by
 obtain⟨a,p,e1,hs⟩:=h1;obtain⟨b,q,e2,ht⟩:=h2;obtain rfl:=eA.1 e1;obtain rfl:=eA.1 e2;clear e1 e2;refine KY ?_;intro hb2
 have HC:=Qh (fun o1 o2=>atk x.sigs x.sigs.length x.sigs.length rfl rfl a b p q _ (hs.keep BR (hb2 o1 o2)) (ht.keep BR (hb2 o1 o2)));have HB:=Qh hb2;clear hs ht hb2;generalize x.sigs.length=n at *;unfold bj.cells;go_enter func32,ntmps32
 exact OP (HC.o _ _)
theorem atl (l:List bj) (n m:Nat) (hn:n=l.length) (hm:m=l.length) (a b:Option Addr) (p q:Nat) (w:World) (hs:ei w ru 8 a p l) (ht:ei w ru 8 b q l) :
  Calls prog 76 #[.slice a n p,.slice b m q] w fun e w'=>e=.returned (.bool true)∧Below w.heap.size w w':=by
 subst hm;subst hn;have hmx:l.length≤9223372036854775807:=by
  obtain⟨rows,h1,h2⟩:=hs;have:=h1.len.2.1;have:=h2.len;omega
 have hu:=underlying39;go_enter func76,ntmps76
 go_wp2_with fail;go_loopw [5] (fun x wr=>∃ i:Nat,i≤l.length∧x=.int .i64 (i:Nat)∧Below w.heap.size w wr) (fun x _=>l.length - (intOf x).toNat)
 case atStart=>exact EY
 case round=>
  obtain⟨i,hi,rfl,hb⟩:=hrel;by_cases hlt:(i:Int) < l.length
  ·have a8:i < l.length:=ae;obtain⟨ba,oa,rfl,dC,cs,hcl,ep,hrg⟩:=ei.at (hs.keep iE hb) ah a8;obtain⟨bb,ob,rfl,gh,ds,fY,kW,lX⟩:=ei.at (ht.keep iE hb) ah a8;have c:=fun z:aW wr=>KZ l[i] z.w cs.toArray ds.toArray (iE _ _ _ _ ep z.below) (iE _ _ _ _ kW z.below)
   have hsz:(prog.info? 39).map (·.size)=some cs.length:=(by rw[hcl];exact ql);refine abU ?_;intro hsz';have r1:∀ v,(∃ z:aW wr,v=z.w)→v.rangeAt ba (oa+i*8) cs:=PK;have r2:∀ v,(∃ z:aW wr,v=z.w)→v.rangeAt bb (ob+i*8) ds:=PJ;clear ep kW hrg lX hcl fY;go_wp2_with fail;refine rL ?_
   repeat (first|(refine KP r1 39 (.tmp 19) hu hsz ?_;simp only[Act.put,nI,oZ,ox])|(refine KP r2 39 (.tmp 23) hu hsz' ?_;simp only[Act.put,nI,oZ,ox])|go_big_quiet_step ((go_at_call 32;with_reducible exact aW.made (c _))))
   refine uk ?_;intro z;have hb2:=aH hb z.below af;generalize z.w=w3 at *;clear c r1 r2;go_wp2_with fail;go_roundw;case rel=>exact⟨i+1,ae,bL,hb2⟩
   case measure=>exact bY
  ·exact CV
theorem OE (x:bK) (w:World) (cs ds:Array Value) (h1:su w x cs.toList) (h2:su w x ds.toList) :
  Calls prog 57 #[.agg cs,.agg ds] w fun e w'=>e=.returned (.bool true)∧Below w.heap.size w w':=by
 obtain⟨a,p,e1,hs⟩:=h1;obtain⟨b,q,e2,ht⟩:=h2;obtain rfl:=eA.1 e1;obtain rfl:=eA.1 e2;clear e1 e2;refine KY ?_;intro hb2
 have HC:=Qh (fun o1 o2=>aey x.rows x.rows.length x.rows.length rfl rfl a b p q _ (hs.keep (hb2 o1 o2) af) (ht.keep (hb2 o1 o2) af));have HB:=Qh hb2;clear hs ht hb2;generalize x.rows.length=n at *;unfold bK.cells;go_enter func57,ntmps57
 exact OP (HC.o _ _)
theorem atm (l:List bK) (n m:Nat) (hn:n=l.length) (hm:m=l.length) (a b:Option Addr) (p q:Nat) (w:World) (hs:ei w su 6 a p l) (ht:ei w su 6 b q l) :
  Calls prog 77 #[.slice a n p,.slice b m q] w fun e w'=>e=.returned (.bool true)∧Below w.heap.size w w':=by
 subst hm;subst hn;have hmx:l.length≤9223372036854775807:=by
  obtain⟨rows,h1,h2⟩:=hs;have:=h1.len.2.1;have:=h2.len;omega
 have hu:=underlying43;go_enter func77,ntmps77
 go_wp2_with fail;go_loopw [5] (fun x wr=>∃ i:Nat,i≤l.length∧x=.int .i64 (i:Nat)∧Below w.heap.size w wr) (fun x _=>l.length - (intOf x).toNat)
 case atStart=>exact EY
 case round=>
  obtain⟨i,hi,rfl,hb⟩:=hrel;by_cases hlt:(i:Int) < l.length
  ·have a8:i < l.length:=ae;obtain⟨ba,oa,rfl,dC,cs,hcl,ep,hrg⟩:=ei.at (hs.keep jP hb) ah a8;obtain⟨bb,ob,rfl,gh,ds,fY,kW,lX⟩:=ei.at (ht.keep jP hb) ah a8;have c:=fun z:aW wr=>OE l[i] z.w cs.toArray ds.toArray (jP _ _ _ _ ep z.below) (jP _ _ _ _ kW z.below)
   have hsz:(prog.info? 43).map (·.size)=some cs.length:=(by rw[hcl];exact rM);have hsz':(prog.info? 43).map (·.size)=some ds.length:=(by rw[fY];exact rM);have r1:∀ v,(∃ z:aW wr,v=z.w)→v.rangeAt ba (oa+i*6) cs:=PK;have r2:∀ v,(∃ z:aW wr,v=z.w)→v.rangeAt bb (ob+i*6) ds:=PJ;clear ep kW hrg lX hcl fY;go_wp2_with fail;refine rL ?_
   repeat (first|(refine KP r1 43 (.tmp 19) hu hsz ?_;simp only[Act.put,nI,oZ,ox])|(refine KP r2 43 (.tmp 23) hu hsz' ?_;simp only[Act.put,nI,oZ,ox])|go_big_quiet_step ((go_at_call 57;with_reducible exact aW.made (c _))))
   refine uk ?_;intro z;have hb2:=aH hb z.below af;generalize z.w=w3 at *;clear c r1 r2;go_wp2_with fail;go_roundw;case rel=>exact⟨i+1,ae,bL,hb2⟩
   case measure=>exact bY
  ·exact CV
theorem Wf (x:fH) (w:World) (cs ds:Array Value) (h1:FY w x cs.toList) (h2:FY w x ds.toList) :
  Calls prog 56 #[.agg cs,.agg ds] w fun e w'=>e=.returned (.bool true)∧Below w.heap.size w w':=by
 obtain⟨a,p,e1,hs⟩:=h1;obtain⟨b,q,e2,ht⟩:=h2;obtain rfl:=eA.1 e1;obtain rfl:=eA.1 e2;clear e1 e2;refine KY ?_;intro hb2
 have HC:=Qh (fun o1 o2=>ais x.names x.names.length x.names.length rfl rfl a b p q _ (hs.keep (hb2 o1 o2) af) (ht.keep (hb2 o1 o2) af));have HB:=Qh hb2;clear hs ht hb2;generalize x.names.length=n at *;unfold fH.cells;go_enter func56,ntmps56
 exact OP (HC.o _ _)
theorem akQ (x:aS) (w:World) (cs ds:Array Value) (h1:rf w x cs.toList) (h2:rf w x ds.toList) :
  Calls prog 30 #[.agg cs,.agg ds] w fun e w'=>e=.returned (.bool true)∧Below w.heap.size w w':=by
 obtain⟨a,p,b,q,c,r,e1,hs,hm,ht⟩:=h1;obtain⟨a',p',b',q',c',r',e2,FF,Mt,DV⟩:=h2;obtain rfl:=eA.1 e1;obtain rfl:=eA.1 e2;clear e1 e2;refine KY ?_;intro hb2
 refine fx (fun W (hb:Below w.heap.size w W)=>atl x.msgs x.msgs.length x.msgs.length rfl rfl b b' q q' W (hm.keep iE hb) (Mt.keep iE hb)) (fun W (hb:Below w.heap.size w W)=>atm x.tabs x.tabs.length x.tabs.length rfl rfl c c' r r' W (ht.keep jP hb) (DV.keep jP hb)) (fun W (hb:Below w.heap.size w W)=>Wf x.aR W #[.int .i64 x.aR.line,.int .i64 x.aR.ak,.slice a x.aR.names.length p] #[.int .i64 x.aR.line,.int .i64 x.aR.ak,.slice a' x.aR.names.length p'] ⟨a,p,rfl,hs.keep hb af⟩ ⟨a',p',rfl,FF.keep hb af⟩) hb2 ?_;clear hs ht hm FF DV Mt hb2;intro C1 C2 C3 HB;generalize x.msgs.length=n1 at *;generalize x.tabs.length=n2 at *;generalize x.aR.names.length=n3 at *;unfold aS.cells;obtain⟨zb,zb',-,gw⟩:=rj w #[.bool x.has,.int .i64 x.bG.line,.int .i64 x.bG.ak,.string ⟨x.bG.text.toArray⟩,.int .i64 x.aR.line,.int .i64 x.aR.ak,.slice a n3 p,.slice b n1 q,.slice c n2 r] #[.bool x.has,.int .i64 x.bG.line,.int .i64 x.bG.ak,.string ⟨x.bG.text.toArray⟩,.int .i64 x.aR.line,.int .i64 x.aR.ak,.slice a' n3 p',.slice b' n1 q',.slice c' n2 r'] 33 33;refine aY gw zb zb' ?_;intro BZ Z1 Z2;clear gw zb zb' HB;generalize x.bG.text=vt at *;generalize x.bG.line=vl at *;generalize x.bG.ak=vc at *;generalize x.aR.line=sl at *;generalize x.aR.ak=sc at *;generalize x.has=hv at *;go_enter func30,ntmps30
 go_wp2_with fail;refine aQ (C1.o _ BZ.o) ?_;intro w1 hb
 have z1:=Z1.o.keep hb af;have z2:=Z2.o.keep hb af;have B1:=Qh (aH BZ.o hb af);have f1:=z1.cell 8 _ rfl;have f2:=z2.cell 8 _ rfl;have Y1:=Qh z1;have Y2:=Qh z2;clear hb z1 z2;go_wp2_with fail;refine aQ (C2.o _ B1.o) ?_;intro w2 hb
 have z1:=Y1.o.keep hb af;have z2:=Y2.o.keep hb af;have B2:=Qh (aH B1.o hb af);have k1:=z1.cell 4 _ rfl;have k2:=z1.cell 5 _ rfl;have k3:=z1.cell 6 _ rfl;have l1:=z2.cell 4 _ rfl;have l2:=z2.cell 5 _ rfl;have l3:=z2.cell 6 _ rfl;clear hb z1 z2 f1 f2;go_wp2_with fail;refine aQ (C3.o _ B2.o) ?_;intro w3 hb
 clear k1 k2 k3 l1 l2 l3;exact U1 (aH B2.o hb af)
end Go.Proofs.YtfflljgnpfldfaaGreatDoor
