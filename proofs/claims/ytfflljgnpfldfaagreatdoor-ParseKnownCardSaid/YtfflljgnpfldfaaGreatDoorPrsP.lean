/-
  The parser's table: contract. (Printed by gen_prsp.py.)
-/
import Derived.Test.YtfflljgnpfldfaaGreatDoorPrsK
set_option linter.all false
set_option maxHeartbeats 128000000
set_option maxRecDepth 100000
namespace Go.Proofs.YtfflljgnpfldfaaGreatDoor
open Go.RowKit
inductive fK {α:Type}:Nat→List (α×Nat×Nat)→Nat→Prop
 | nil {a b:Nat}:a≤b→fK a [] b
 | cons {a b lo hi:Nat} {x:α} {l:List (α×Nat×Nat)}:a≤lo→lo≤hi→fK hi l b→fK a ((x,lo,hi)::l) b
theorem fK.le {α:Type} {a b:Nat} {l:List (α×Nat×Nat)} (h:fK a l b):a≤b:=by
 induction h with
 | nil h=>exact h
 | cons h1 h2 _ ih=>omega
theorem fK.snoc {α:Type} {a b:Nat} {l:List (α×Nat×Nat)} (h:fK a l b) {lo hi:Nat} (x:α) (h1:b≤lo) (h2:lo≤hi):fK a (l++[(x,lo,hi)]) hi:=by
 induction h with
 | nil h=>exact .cons (bQ h h1) h2 (.nil af)
 | cons h3 h4 _ ih=>exact .cons h3 h4 (ih h1)
theorem fK.mono {α:Type} {a b:Nat} {l:List (α×Nat×Nat)} (h:fK a l b) {b':Nat} (hb:b≤b'):fK a l b':=by
 induction h with
 | nil h=>exact .nil (bQ h hb)
 | cons h3 h4 _ ih=>exact .cons h3 h4 (ih hb)
theorem fK.low {α:Type} {a b:Nat} {l:List (α×Nat×Nat)} (h:fK a l b) {a':Nat} (ha:a'≤a):fK a' l b:=by
 cases h with
 | nil h=>exact .nil (bQ ha h)
 | cons h3 h4 h5=>exact .cons (bQ ha h3) h4 h5
theorem fK.app {α:Type} {a b c:Nat} {l l':List (α×Nat×Nat)} (h:fK a l b) (h':fK b l' c):fK a (l++l') c:=by
 induction h with
 | nil h=>exact h'.low h
 | cons h3 h4 _ ih=>exact .cons h3 h4 (ih h')
def F0 (w:World) (x:et×Nat×Nat) (cs:List Value):Prop:=∃ v,cs=(x.1.d.cells v).toList∧aG w x.2.1 9 1 dr v x.1.rs∧∀ k,v.ownBlock=some k→k < x.2.2
def Mx (w:World) (m:bj×Nat×Nat) (cs:List Value):Prop:=∃ (v:Value) (T:List (et×Nat×Nat)),cs=(m.1.cells v).toList∧aZ w m.2.1 63 F0 19 v T∧T.map Prod.fst=m.1.sigs∧fK m.2.1 T m.2.2∧∀ k,v.ownBlock=some k→k < m.2.2
def My (w:World) (t:bK×Nat×Nat) (cs:List Value):Prop:=∃ v,cs=(t.1.cells v).toList∧aG w t.2.1 45 2 fS v t.1.rows∧∀ k,v.ownBlock=some k→k < t.2.2
def QY (w:World) (s:fH×Nat×Nat) (cs:List Value):Prop:=∃ v,cs=(s.1.cells v).toList∧aG w s.2.1 9 1 dr v s.1.names∧∀ k,v.ownBlock=some k→k < s.2.2
def qa (w:World) (n:aX×Nat×Nat) (cs:List Value):Prop:=match n with
 | (.bG v,_,_)=>cs=[.iface 26 (.agg v.cells)]
 | (.aR s,lo,hi)=>∃ C:Array Value,cs=[.iface 29 (.agg C)]∧QY w (s,lo,hi) C.toList
 | (.msg m,lo,hi)=>∃ C:Array Value,cs=[.iface 39 (.agg C)]∧Mx w (m,lo,hi) C.toList
 | (.tab t,lo,hi)=>∃ C:Array Value,cs=[.iface 43 (.agg C)]∧My w (t,lo,hi) C.toList
theorem Jf:jY F0:=fun w w' x cs ⟨v,h1,h2,h3⟩ hb=>⟨v,h1,h2.keep hb af,h3⟩
theorem alu:jY Mx:=fun w w' x cs ⟨v,T,h1,h2,h3⟩ hb=>⟨v,T,h1,h2.keep Jf hb,h3⟩
theorem alv:jY My:=fun w w' x cs ⟨v,h1,h2,h3⟩ hb=>⟨v,h1,h2.keep hb af,h3⟩
theorem alw:jY QY:=fun w w' x cs ⟨v,h1,h2,h3⟩ hb=>⟨v,h1,h2.keep hb af,h3⟩
theorem nZ:jY qa:=fun w w' x cs h hb=>by
 obtain⟨n,lo,hi⟩:=x;cases n with
 | bG v=>exact h
 | aR s=>obtain⟨C,h1,h2⟩:=h;exact⟨C,h1,alw _ _ _ _ h2 hb⟩
 | msg m=>obtain⟨C,h1,h2⟩:=h;exact⟨C,h1,alu _ _ _ _ h2 hb⟩
 | tab t=>obtain⟨C,h1,h2⟩:=h;exact⟨C,h1,alv _ _ _ _ h2 hb⟩
theorem Mz {e:TypeId} (he:9≠e):kI F0 e:=fun w w' x cs k C fz ⟨v,h1,h2,h3⟩ hk _ hb=>⟨v,h1,h2.dn he hk hb,h3⟩
theorem alx {e:TypeId} (he:9≠e) (rZ:63≠e):kI Mx e:=fun w w' x cs k C fz ⟨v,T,h1,h2,h3⟩ hk hz hb=>⟨v,T,h1,h2.dn rZ (Mz he) hk hz hb,h3⟩
theorem aly {e:TypeId} (he:45≠e):kI My e:=fun w w' x cs k C fz ⟨v,h1,h2,h3⟩ hk _ hb=>⟨v,h1,h2.dn he hk hb,h3⟩
theorem alz {e:TypeId} (he:9≠e):kI QY e:=fun w w' x cs k C fz ⟨v,h1,h2,h3⟩ hk _ hb=>⟨v,h1,h2.dn he hk hb,h3⟩
theorem V4 {e:TypeId} (he:9≠e) (rZ:63≠e) (V5:45≠e):kI qa e:=fun w w' x cs k C fz h hk hz hb=>by
 obtain⟨n,lo,hi⟩:=x;cases n with
 | bG v=>exact h
 | aR s=>obtain⟨D,h1,h2⟩:=h;exact⟨D,h1,alz he _ _ _ _ _ _ _ h2 hk hz hb⟩
 | msg m=>obtain⟨D,h1,h2⟩:=h;exact⟨D,h1,alx he rZ _ _ _ _ _ _ _ h2 hk hz hb⟩
 | tab t=>obtain⟨D,h1,h2⟩:=h;exact⟨D,h1,aly V5 _ _ _ _ _ _ _ h2 hk hz hb⟩
theorem aZ.fst {α:Type} {rdT:World→α×Nat×Nat→List Value→Prop} {rd:World→α→List Value→Prop} {w:World} {base:Nat} {e:TypeId} {size:Nat} {v:Value} {T:List (α×Nat×Nat)} (h:aZ w base e rdT size v T) (hm:∀ x∈T,∀ cs,rdT w x cs→rd w x.1 cs):aZ w base e rd size v (T.map Prod.fst):=by
 obtain⟨rows,h1,h2⟩:=h;refine⟨rows,h1,?_⟩;clear h1
 induction h2 with
 | nil=>exact .nil
 | cons a _ ih=>exact .cons (hm _ aB _ a) (ih fun x hx=>hm x xp)
theorem fK.ge {α:Type} {a b:Nat} {l:List (α×Nat×Nat)} (h:fK a l b):∀ x∈l,a≤x.2.1∧x.2.2≤b:=by
 induction h with
 | nil h=>intro x hx;cases hx
 | cons h3 h4 h5 ih=>
  intro x hx;have:=h5.le;rcases nL.1 hx with rfl|hx
  ·exact⟨h3,this⟩
  ·have:=ih x hx;omega
theorem alA {w:World} {x:et×Nat×Nat} {cs:List Value} (h:F0 w x cs) {b:Nat} (hb:b≤x.2.1):mW b w x.1 cs:=by
 obtain⟨v,h1,h2,-⟩:=h;exact Ls
theorem alB {w:World} {m:bj×Nat×Nat} {cs:List Value} (h:Mx w m cs) {b:Nat} (hb:b≤m.2.1):jK b w m.1 cs:=by
 obtain⟨v,T,h1,h2,h3,h4,-⟩:=h;refine⟨v,h1,?_⟩;rw[← h3];exact(h2.fst fun x hx cs hc=>alA hc (bQ hb (h4.ge x hx).1)).fU hb
theorem alC {w:World} {t:bK×Nat×Nat} {cs:List Value} (h:My w t cs) {b:Nat} (hb:b≤t.2.1):nN b w t.1 cs:=by
 obtain⟨v,h1,h2,-⟩:=h;exact Ls
theorem alD {w:World} {t:fH×Nat×Nat} {cs:List Value} (h:QY w t cs) {b:Nat} (hb:b≤t.2.1):QR b w t.1 cs:=by
 obtain⟨v,h1,h2,-⟩:=h;exact Ls
theorem ad9 {w:World} {n:aX×Nat×Nat} {cs:List Value} (h:qa w n cs):QZ w n.1 cs:=by
 obtain⟨n,lo,hi⟩:=n;cases n with
 | bG v=>exact h
 | aR s=>obtain⟨C,h1,h2⟩:=h;exact⟨C,h1,alD h2 (bV _)⟩
 | msg m=>obtain⟨C,h1,h2⟩:=h;exact⟨C,h1,alB h2 (bV _)⟩
 | tab t=>obtain⟨C,h1,h2⟩:=h;exact⟨C,h1,alC h2 (bV _)⟩
theorem aZ.only {α:Type} {rd:World→α→List Value→Prop} {w w':World} {B kp:Nat} {e:TypeId} {size:Nat} {v:Value} {xs:List α} {ts:List aw} (h:aZ w B e rd size v xs) (hp:bH w kp ts) (ho:aA kp w w') (he:e≠111) (ha:kI rd 111):aZ w' B e rd size v xs:=by
 obtain⟨a,cap,h1,-⟩:=hp;exact h.dn he ha h1 ho.size fun b hb hne=>ho.block b hb Iq
open Go.Proofs.Tryz
open Go.RowKit Go.Shelf
def Zs (kp:Nat) (w:World) (R:PR bj) (e:Ending) (w':World):Prop:=match R with
 | .ok x ts=>∃ C:Array Value,e=.returned (.agg C)∧Mx w' (x,w.heap.size,w'.heap.size) C.toList∧aA kp w w'∧bH w' kp ts
 | .bad no l c=>e=.panicked [{ v:=eH no l c,recovered:=false }]∧aA kp w w'
theorem Zt {ts aJ:List aw} {x:List UInt8} (h:ee ts=.ok x aJ) (hb:di ts):di aJ∧x.length≤64:=⟨(Kl h hb).1,(Kl h hb).2.2.1⟩
theorem aqX (ts:List aw) (ed:di ts) (kp:Nat) (w:World) (h:bH w kp ts) (yG:∀ W,aA kp w W→ng W∧rB W) :
  Calls prog 93 #[.pointer (some ⟨kp,0,none⟩)] w fun e w'=>Zs kp w (my ts) e w':=by
 obtain⟨R,hR⟩:∃ R,R=my ts:=⟨_,rfl⟩
 rw[← hR];unfold my at hR;have HR:=Qh hR;clear hR;have dG:=h.lt;have HL:=Qh yG;have hb0:Below w.heap.size w (w.alloc (.cells fE 39)):=(aC _ _).alloc af _;refine fQ (aA.of_below kp hb0) (h.keep hb0) (dK w (.cells fE 39)) pC ?_;intro HO HP HZ hf0;have jk:=tU;have hf2:=yF;clear hb0 h yG;have pD:=ed;go_enter func93,ntmps93
 cases hX:cj [66,79,95] ts with
 | bad no ln c=>
  exact jg (iT [66,79,95] ts pD.1 kp _ HP.o) HR.o
 | ok t dX=>
  have cc:=iT [66,79,95] ts pD.1 kp _ HP.o;refine K9 HR.o (qg hX pD) ?_;clear pD;intro cc HR lg iz;go_wp2_with fail;refine dF cc ?_;intro W1 ho hp;refine aY (eJ HZ.o ae ho) (HO.o.trans ho) hp ?_;intro HZ HO HP;clear cc ho hp;obtain⟨C0,jJ⟩:∃ C,C=(⟨t.line,t.ak,0,false,[],0,[],[]⟩:bj).cells (.slice none 0 0):=⟨_,rfl⟩
  have oX:=Qh jJ;have sX:C0.size=8:=Fk;have uY:C0.all (·.oneCell')=true:=(by rw[jJ];exact bj.cells_one _ _ _ _);clear jJ;go_upto_region 2 with (refine eX (Z:=fE) (cs:=C0) 39 (.tmp 3) (.tmp 7) (by rw[sX];exact DT) Fl uY ?_ (hy:=Fj))
  have cH:Below W1.heap.size W1 (W1.alloc (.cells C0 39)):=(aC _ _).alloc af _;refine Lb ?_;intro Kn gO
  have sK:kp < W1.heap.size:=ae;have HC:=Qh (show(W1.alloc (.cells C0 39)).heap[W1.heap.size]? = some (.cells ((⟨t.line,t.ak,0,false,[],0,[],[]⟩:bj).cells (.slice none 0 0)) 39)by rw[← oX.o];exact dK W1 _);refine aY (bF HZ.o cH) (HO.o.trans (aA.of_below kp cH)) (HP.o.keep cH) ?_;intro HZ HO HP;clear cH;generalize ij:W1.heap.size=km at *;generalize W1.alloc (.cells C0 39)=W2 at *;cases hX:oF dX with
  | bad no ln c=>
   exact jg (SA dX lg.1 lg.head kp _ HP.o (HL.o _ HO.o).1 (HL.o _ HO.o).2) HR.o
  | ok i ki=>
   refine kt (SA dX lg.1 lg.head kp _ HP.o (HL.o _ HO.o).1 (HL.o _ HO.o).2) HR.o (Zq hX lg) ?_;clear lg;intro cc HR oM iz;go_wp2_with fail;refine aI cc ?_;clear cc;refine jd ?_;intro W3 HZ HC HO HP;obtain⟨iN,iB⟩:=i;simp only at *;have c2:=ai.cell ⟨_,HC.o⟩ 2 (.int .u32 0) rfl;have r2:=ai.free ⟨_,HC.o⟩ 2;have c3:=ai.cell ⟨_,HC.o⟩ 3 (.bool false) rfl;have r3:=ai.free ⟨_,HC.o⟩ 3;refine abz ?_;intro Zu Zv
   have bo:=Qh (show((W3.setCell ⟨km,2,none⟩ (.int .u32 (iN:Nat))).setCell ⟨km,3,none⟩ (.bool iB)).heap[km]? = some (.cells ((⟨t.line,t.ak,iN,iB,[],0,[],[]⟩:bj).cells (.slice none 0 0)) 39)from (bJ (bJ HC.o 2 (.int .u32 (iN:Nat))) 3 (.bool iB)));have aU:=Qh (aA.new (aA.new HO.o km gO 2 (.int .u32 (iN:Nat))) km gO 3 (.bool iB));have bC:=Qh (dH (dH HZ.o (show w.heap.size≠km by omega) 2 (.int .u32 (iN:Nat))) (show w.heap.size≠km by omega) 3 (.bool iB));have bw:=Qh (bH.set (bH.set HP.o sK 2 (.int .u32 (iN:Nat))) sK 3 (.bool iB));go_upto_region 3 with fail
   clear c2 r2 c3 r3;have HC:=bo;have HO:=aU;have HZ:=bC;have HP:=bw;clear bo aU bC bw;generalize ((W3.setCell ⟨km,2,none⟩ (.int .u32 (iN:Nat))).setCell ⟨km,3,none⟩ (.bool iB))=W4 at *;cases hX:ee ki with
   | bad no ln c=>
    exact jg (wG ki oM.1 (bQ oM.head ah) kp _ HP.o) HR.o
   | ok nm dD=>
    refine kt (wG ki oM.1 (bQ oM.head ah) kp _ HP.o) HR.o (Zt hX oM) ?_;clear oM;intro cc HR yH iz;go_wp2_with fail;refine aI cc ?_;clear cc;refine O3 ?_;intro W5 HZ HC HO HP c4 r4;have bo:=Qh (show(W5.setCell ⟨km,4,none⟩ (.string ⟨nm.toArray⟩)).heap[km]? = some (.cells ((⟨t.line,t.ak,iN,iB,nm,0,[],[]⟩:bj).cells (.slice none 0 0)) 39)from (bJ HC.o 4 (.string ⟨nm.toArray⟩)));have aU:=Qh (aA.new HO.o km gO 4 (.string ⟨nm.toArray⟩));have bC:=Qh (dH HZ.o (show w.heap.size≠km by omega) 4 (.string ⟨nm.toArray⟩));have bw:=Qh (bH.set HP.o sK 4 (.string ⟨nm.toArray⟩));go_upto_region 4 with fail
    clear c4 r4;have HC:=bo;have HO:=aU;have HZ:=bC;have HP:=bw;clear bo aU bC bw;generalize (W5.setCell ⟨km,4,none⟩ (.string ⟨nm.toArray⟩))=W6 at *;cases hX:cj [58] dD with
    | bad no ln c=>
     exact jg (iT [58] dD yH.1 kp _ HP.o) HR.o
    | ok aqT AB=>
     refine kt (iT [58] dD yH.1 kp _ HP.o) HR.o (qg hX yH) ?_;clear yH;intro cc HR uZ iz;go_wp2_with fail;refine aI cc ?_;clear cc;refine jd ?_;intro W7 HZ HC HO HP;cases hX:gQ 2147483648 AB with
     | bad no ln c=>
      exact jg (Km AB uZ.1 uZ.head kp _ HP.o (HL.o _ HO.o).1 (HL.o _ HO.o).2) HR.o
     | ok sz GR=>
      refine kt (Km AB uZ.1 uZ.head kp _ HP.o (HL.o _ HO.o).1 (HL.o _ HO.o).2) HR.o (NC hX uZ) ?_;clear uZ;intro cc HR yI iz;go_wp2_with fail;refine aI cc ?_;clear cc;refine jd ?_;intro W8 HZ HC HO HP;have hsz:=iz.o.1;have c5:=ai.cell ⟨_,HC.o⟩ 5 (.int .i64 0) rfl;have r5:=ai.free ⟨_,HC.o⟩ 5;have bo:=Qh (show(W8.setCell ⟨km,5,none⟩ (.int .i64 (sz:Nat))).heap[km]? = some (.cells ((⟨t.line,t.ak,iN,iB,nm,sz,[],[]⟩:bj).cells (.slice none 0 0)) 39)from (bJ HC.o 5 (.int .i64 (sz:Nat))));have aU:=Qh (aA.new HO.o km gO 5 (.int .i64 (sz:Nat)));have bC:=Qh (dH HZ.o (show w.heap.size≠km by omega) 5 (.int .i64 (sz:Nat)));have bw:=Qh (bH.set HP.o sK 5 (.int .i64 (sz:Nat)));go_upto_region 6 with fail
      clear c5 r5;have HC:=bo;have HO:=aU;have HZ:=bC;have HP:=bw;clear bo aU bC bw;generalize (W8.setCell ⟨km,5,none⟩ (.int .i64 (sz:Nat)))=W9 at *;cases hX:ee GR with
      | bad no ln c=>
       exact jg (wG GR yI.1 (bQ yI.head ah) kp _ HP.o) HR.o
      | ok sd Ew=>
       refine kt (wG GR yI.1 (bQ yI.head ah) kp _ HP.o) HR.o (Zt hX yI) ?_;clear yI;intro cc HR Ex iz;go_wp2_with fail;refine aI cc ?_;clear cc;refine jd ?_;intro NG HZ HC HO HP;have c6:=ai.cell ⟨_,HC.o⟩ 6 (.string ⟨#[]⟩) rfl;have r6:=ai.free ⟨_,HC.o⟩ 6;have bo:=Qh (show(NG.setCell ⟨km,6,none⟩ (.string ⟨sd.toArray⟩)).heap[km]? = some (.cells ((⟨t.line,t.ak,iN,iB,nm,sz,sd,[]⟩:bj).cells (.slice none 0 0)) 39)from (bJ HC.o 6 (.string ⟨sd.toArray⟩)));have aU:=Qh (aA.new HO.o km gO 6 (.string ⟨sd.toArray⟩));have bC:=Qh (dH HZ.o (show w.heap.size≠km by omega) 6 (.string ⟨sd.toArray⟩));have bw:=Qh (bH.set HP.o sK 6 (.string ⟨sd.toArray⟩));go_upto_region 7 with fail
       clear c6 r6;have HC:=bo;have HO:=aU;have HZ:=bC;have HP:=bw;clear bo aU bC bw;generalize (NG.setCell ⟨km,6,none⟩ (.string ⟨sd.toArray⟩))=NH at *;obtain⟨KF,gu,jb⟩:∃ KF:List et→List aw→PR bj,R=(kg Ew.length [] Ew).bind KF∧KF=fun l ts=>.ok ⟨t.line,t.ak,iN,iB,nm,sz,sd,l⟩ ts:=⟨_,HR.o,rfl⟩
       have u5:=Qh gu;have jh:=Qh jb;clear gu jb;go_wp2_with fail;go_loopw [] (fun wr=>∃ (T:List (et×Nat×Nat)) (v:Value) (tz:List aw) (g:Nat),di tz∧tz.length≤g∧T.length≤64∧R=(kg g (T.map Prod.fst) tz).bind KF∧bH wr kp tz∧aA kp w wr∧wr.heap[km]? = some (.cells ((⟨t.line,t.ak,iN,iB,nm,sz,sd,[]⟩:bj).cells (v)) 39)∧wr.heap[w.heap.size]? = some (.cells fE 39)∧aZ wr w.heap.size 63 F0 19 v T∧fK w.heap.size T wr.heap.size) (fun wr=>AA wr kp)
       case atStart=>exact⟨[],_,Ew,Ew.length,Ex,af,aB,u5.o,HP.o,HO.o,HC.o,HZ.o,aZ.nil _ _ _ _ _,.nil HO.o.size⟩
       case round=>
        obtain⟨T,v,tz,g,jc,hg,avr,qK,kj,qL,yJ,hzz,hown,hch⟩:=hrel;have bm:=jc.1.pos;obtain⟨g',rfl⟩:∃ g',g=g' + 1:=⟨g - 1,ae⟩
        have cm:=GL [83,71,95] tz bm kp wr kj;have mJ:=Qh (show R=(if dt [83,71,95] tz then (if (T.map Prod.fst).length=64 then eY 5 tz else (nc tz).bind fun x aJ=>kg g' (T.map Prod.fst++[x]) aJ) else .ok (T.map Prod.fst) tz:PR (List et)).bind KF from qK);clear qK;generalize dt [83,71,95] tz=SB at *;refine aY qL yJ hzz ?_;intro u6 AE Ey;clear qL yJ hzz;refine fx hown kj hch (bH.cnt kj) ?_;clear kj hown hch;intro kn yP rH wI;obtain⟨av,cv,rfl,-⟩:=kn.o.shape;go_wp2_with fail;refine aQ cm ?_;intro eh hb;have jU:=Qh (u6.o.trans (aA.of_below kp hb));have kQ:=Qh (yP.o.keep hb);clear cm;refine fx (bF AE.o hb) (bF Ey.o hb) (kn.o.keep Jf hb) (rH.o.mono hb.size) ?_;clear hb;intro nu wJ jo Cv;cases SB
        ·have eT:R=KF (T.map Prod.fst) tz:=mJ.o;rw[jh.o]at eT;have HV:=Qh eT;clear eT;have hce:=nu.o;have AG:=wJ.o;obtain⟨CC,fB⟩:∃ C,C=(⟨t.line,t.ak,iN,iB,nm,sz,sd,[]⟩:bj).cells (.slice av T.length cv):=⟨_,rfl⟩
         rw[← fB]at hce;have eB:=Qh fB;refine UN ?_;intro oW nW;have lU:ai eh km CC:=⟨_,hce⟩
         have bz:ai eh w.heap.size fE:=⟨_,AG⟩
         have iP:=underlying39;clear hce AG fB;go_wp2_with (first|(refine fG lU 39 (.tmp 3) iP Bf ?_)|(refine iC (cs:=CC) bz 39 (.tmp 2) (.tmp 42) Bf xj nW ?_))
         have hrun:=fo (bz.row CC) 39 _ iP rfl Bf;refine bB (v:=.agg CC) (by simp[results,results93,Act.put,asAddr,hrun]) rfl ?_;rw[HV.o];refine⟨CC,rfl,⟨.slice av T.length cv,T,by rw[eB.o];rfl,?_,rfl,?_,?_⟩,jU.o.row _ af CC,kQ.o.row dG CC⟩
         ·exact jo.o.dn ah (Mz ah) wJ.o qX (fun b _ hne=>gK _ _ _ _ hne)
         ·exact Cv.o.mono qX
         ·intro k hk;obtain⟨rows,hrw,-⟩:=jo.o;have:=(hrw.lt k hk).2
          simpa [World.setRow]using this
        ·have c7:=ai.cell ⟨_,nu.o⟩ 7 (.slice av T.length cv) rfl;have r7:=ai.free ⟨_,nu.o⟩ 7;by_cases oQ:T.length=64
         ·have eT:R=.bad 5 (ax tz).line (ax tz).ak:=by
           rw[mJ.o,if_pos rfl,if_pos (by rw[iw];exact oQ)];rfl
          have HV:=Qh eT;clear eT;have cw:=GK 5 tz bm kp _ kQ.o;rw[oQ]at c7;go_wp2_with fail;refine aQ cw ?_;intro dR hb;clear cw;exact Hu (jU.o.trans (aA.of_below kp hb))
         ·have eT:R=((nc tz).bind fun x aJ=>kg g' (T.map Prod.fst++[x]) aJ).bind KF:=by
           rw[mJ.o,if_pos rfl,if_neg (by rw[iw];exact oQ)]
          have HV:=Qh eT;clear eT;have ag3:((T.length:Int) == 64)=false:=bN ae;have pP:=Qh (jU.o.trans (aA.of_below kp (aC eh.heap.size eh).drew));have tY:=Qh (kQ.o.keep (aC eh.heap.size eh).drew);have cn:=aqS tz jc kp eh.drew tY.o (fun W hW=>HL.o W (pP.o.trans hW));cases hX:nc tz with
          | bad no ln c=>
           rw[hX]at cn;unfold YR at cn;have hr:=HV.o;rw[hX,PR.ug,PR.ug]at hr;have dv:=Qh hr;clear hr hX;go_wp2_with fail;refine wX 7 (fun (w':World)=>w'.cell? ⟨km,7,none⟩=some (.slice av T.length cv)) aj c7 (fun hHeld=>?_);refine hL 0 ?_;refine aL ?_
           refine hL 1 ?_;refine aL ?_
           refine hL 2 ?_;refine zg ?_;intro K hK
           exact UB cn
          | ok x sI=>
           rw[hX]at cn;unfold YR at cn;have hr:=HV.o;rw[hX,PR.ku]at hr;have dv:=Qh hr;obtain⟨rG,Kv⟩:=SU _ _ _ hX jc;clear hr hX;go_wp2_with fail;refine wX 7 (fun (w':World)=>w'.cell? ⟨km,7,none⟩=some (.slice av T.length cv)) aj c7 (fun hHeld=>?_);refine hL 0 ?_;refine aL ?_
           refine hL 1 ?_;refine aL ?_
           refine hL 2 ?_;refine zg ?_;intro K hK
           go_simp;refine aI cn ?_;rintro e dR ⟨D6,rfl,dP,ho,hp⟩;have gX:D6.size=19:=PC;have jB:=QQ dP;have p7:=ze kL D6 19 gX rfl;have aqY:eh.heap.size≤dR.heap.size:=ho.size;have wZ:=Qh (show F0 dR (x,eh.heap.size,dR.heap.size) D6.toList from by
            obtain⟨u,h1,h2⟩:=dP;exact⟨u,h1,h2,fun k hk=>(h2.lt k hk).2⟩)
           have qM:=Qh (eJ (W:=eh.drew) nu.o ae ho);refine aY (eJ (W:=eh.drew) wJ.o ae ho) (pP.o.trans ho) hp ?_;intro GV wK yK;have yL:=Qh (aZ.only (w:=eh.drew) (jo.o.keep Jf (aC eh.heap.size eh).drew) tY.o ho ah (Mz ah));have GZ:=ai.cell ⟨_,qM.o⟩ 7 (.slice av T.length cv) rfl;have hb5:Below dR.heap.size dR (dR.alloc (.cells D6 63)):=(aC _ _).alloc af _;clear cn ho hp dP;clear hHeld;refine hK.o _ _ ?_ (fun hHeld=>?_)
           ·exact GZ
           clear hK K;refine zh ?_;intro K hK
           go_simp;clear hHeld;refine hK.o _ _ ?_ (fun hHeld=>?_)
           ·exact dx GZ hb5
           clear hK K;refine CU ?_;intro K hK
           refine aY (bF qM.o hb5) (bF GV.o hb5) (wK.o.trans (aA.of_below kp hb5)) ?_;intro tW Cs pE;refine fQ (yK.o.keep hb5) (yL.o.keep Jf hb5) (Jf _ _ _ _ wZ.o hb5) (dK dR (.cells D6 63)) ?_;intro vd lV aqZ oO;have oP:w.heap.size≤(dR.alloc (.cells D6 63)).heap.size:=pE.o.size;have aq0:=hb5.size;clear hb5;generalize dR.alloc (.cells D6 63)=wL at *;refine Q4 Jf IW T (x,eh.heap.size,dR.heap.size) (g:=dR.heap.size) (cells:=D6) lV.o (aC w.heap.size wL) oP ae oO aqZ.o gX jB (Mz ah) ?_;refine AU ?_;intro v5 w5 fP bR fD a5 n5 c5 mG
           subst mG;obtain⟨avs,Zw,-⟩:=lV.o;have fF:=Qh (jQ tW.o Zw ah fD);refine aY (jQ Cs.o Zw ah fD) (aA.low pE.o bR) (bH.low vd.o dG bR) ?_;intro vu iV pF;have aq1:dR.heap.size≤w5.heap.size:=bQ aq0 fD.size;have kP:=ai.cell ⟨_,fF.o⟩ 7 (.slice av T.length cv) rfl;have qH:=ai.free ⟨_,fF.o⟩ 7;clear bR fD oO oP Zw p7;clear hHeld;refine hK.o _ _ ?_ (fun hHeld=>?_)
           ·exact kP
           clear hK K;refine aL ?_
           refine hL 6 ?_;refine EX ?_;intro K hK
           go_simp;refine hK.o _ _ ?_;clear hK K;refine H5 ?_
           have eU:=Qh (bJ fF.o 7 (.slice a5 n5 c5));refine aY (dH vu.o (show w.heap.size≠km by omega) 7 (.slice a5 n5 c5)) (aA.new iV.o km gO 7 (.slice a5 n5 c5)) (bH.set pF.o sK 7 (.slice a5 n5 c5)) ?_;intro ve gJ jE;have sJ:=Qh (fP.dn ah (Mz ah) fF.o pR (fun b _ hne=>dN _ ⟨km,7,none⟩ (.slice a5 n5 c5) b hne));have GX:=Qh (bH.cnt jE.o);clear fP kP qH c7 r7 GZ;go_wp2_with fail;go_roundw;case rel=>exact⟨T++[(x,eh.heap.size,dR.heap.size)],_,sI,g',rG,ae,sT,by rw[vO];exact dv.o,jE.o,gJ.o,eU.o,ve.o,sJ.o,(Cv.o.snoc x af aqY).mono (by simpa [World.setCell]using aq1)⟩
           case measure=>rw[GX.o,wI.o];omega
def Zx (kp:Nat) (w:World) (R:PR bK) (e:Ending) (w':World):Prop:=match R with
 | .ok x ts=>∃ C:Array Value,e=.returned (.agg C)∧My w' (x,w.heap.size,w'.heap.size) C.toList∧aA kp w w'∧bH w' kp ts
 | .bad no l c=>e=.panicked [{ v:=eH no l c,recovered:=false }]∧aA kp w w'
theorem aq2 (n:Int) (h:-9223372036854775808≤n∧n < 9223372036854775808) (w:World) (hp:ng w) :
  Calls prog 146 #[.int .i64 n,.int .i64 10] w fun e w'=>e=.returned (.string ⟨(Lib.itoa n).toArray⟩)∧Below w.heap.size w w':=
 (Tryz.strconv_FormatInt_10 n h.1 ae w hp).mono fun e w' ⟨he,k,os,hw⟩=>⟨he,by rw[hw];exact ag4 w k os⟩
theorem aq3 {s:List UInt8} {u:Int} (h:Lib.parseIntB 64 s=.ok u):-9223372036854775808≤u∧u < 9223372036854775808:=by
 unfold Lib.parseIntB at h;split at h
 ·cases h
 ·simp only at h;split at h
  ·cases h
  ·cases h
  ·rename_i m hm
   split at h
   ·cases h
   ·split at h
    ·cases h
    ·rename_i h1 h2
     cases h
     by_cases hn:(‹UInt8›:UInt8).toNat=45
     ·rw[if_pos hn];omega
     ·rw[if_neg hn];omega
theorem aq4 (ts:List aw) (ed:di ts) (kp:Nat) (w:World) (h:bH w kp ts) (yG:∀ W,aA kp w W→ng W∧rB W) :
  Calls prog 94 #[.pointer (some ⟨kp,0,none⟩)] w fun e w'=>Zx kp w (mC ts) e w':=by
 obtain⟨R,hR⟩:∃ R,R=mC ts:=⟨_,rfl⟩
 rw[← hR];unfold mC at hR;have HR:=Qh hR;clear hR;have dG:=h.lt;have HL:=Qh yG;have hb0:Below w.heap.size w (w.alloc (.cells iD 43)):=(aC _ _).alloc af _;refine fQ (aA.of_below kp hb0) (h.keep hb0) (dK w (.cells iD 43)) pC ?_;intro HO HP HZ hf0;have jk:=tU;have hf2:=yF;clear hb0 h yG;have pD:=ed;go_enter func94,ntmps94
 cases hX:cj [86,65,76,95] ts with
 | bad no ln c=>
  exact jg (iT [86,65,76,95] ts pD.1 kp _ HP.o) HR.o
 | ok t dX=>
  have cc:=iT [86,65,76,95] ts pD.1 kp _ HP.o;refine K9 HR.o (qg hX pD) ?_;clear pD;intro cc HR lg iz;go_wp2_with fail;refine dF cc ?_;intro W1 ho hp;refine aY (eJ HZ.o ae ho) (HO.o.trans ho) hp ?_;intro HZ HO HP;clear cc ho hp;obtain⟨C0,jJ⟩:∃ C,C=(⟨t.line,t.ak,0,false,[],[]⟩:bK).cells (.slice none 0 0):=⟨_,rfl⟩
  have oX:=Qh jJ;have sX:C0.size=6:=Fk;have uY:C0.all (·.oneCell')=true:=(by rw[jJ];exact bK.cells_one _ _ _ _);clear jJ;go_upto_region 2 with (refine eX (Z:=iD) (cs:=C0) 43 (.tmp 3) (.tmp 10) (by rw[sX];exact FW) Fl uY ?_ (hy:=Fj))
  have cH:Below W1.heap.size W1 (W1.alloc (.cells C0 43)):=(aC _ _).alloc af _;refine Lb ?_;intro Kn gO
  have sK:kp < W1.heap.size:=ae;have HC:=Qh (show(W1.alloc (.cells C0 43)).heap[W1.heap.size]? = some (.cells ((⟨t.line,t.ak,0,false,[],[]⟩:bK).cells (.slice none 0 0)) 43)by rw[← oX.o];exact dK W1 _);refine aY (bF HZ.o cH) (HO.o.trans (aA.of_below kp cH)) (HP.o.keep cH) ?_;intro HZ HO HP;clear cH;generalize ij:W1.heap.size=km at *;generalize W1.alloc (.cells C0 43)=W2 at *;cases hX:oF dX with
  | bad no ln c=>
   exact jg (SA dX lg.1 lg.head kp _ HP.o (HL.o _ HO.o).1 (HL.o _ HO.o).2) HR.o
  | ok i ki=>
   refine kt (SA dX lg.1 lg.head kp _ HP.o (HL.o _ HO.o).1 (HL.o _ HO.o).2) HR.o (Zq hX lg) ?_;clear lg;intro cc HR oM iz;go_wp2_with fail;refine aI cc ?_;clear cc;refine jd ?_;intro W3 HZ HC HO HP;obtain⟨iN,iB⟩:=i;simp only at *;have c2:=ai.cell ⟨_,HC.o⟩ 2 (.int .u32 0) rfl;have r2:=ai.free ⟨_,HC.o⟩ 2;have c3:=ai.cell ⟨_,HC.o⟩ 3 (.bool false) rfl;have r3:=ai.free ⟨_,HC.o⟩ 3;refine abz ?_;intro Zu Zv
   have bo:=Qh (show((W3.setCell ⟨km,2,none⟩ (.int .u32 (iN:Nat))).setCell ⟨km,3,none⟩ (.bool iB)).heap[km]? = some (.cells ((⟨t.line,t.ak,iN,iB,[],[]⟩:bK).cells (.slice none 0 0)) 43)from (bJ (bJ HC.o 2 (.int .u32 (iN:Nat))) 3 (.bool iB)));have aU:=Qh (aA.new (aA.new HO.o km gO 2 (.int .u32 (iN:Nat))) km gO 3 (.bool iB));have bC:=Qh (dH (dH HZ.o (show w.heap.size≠km by omega) 2 (.int .u32 (iN:Nat))) (show w.heap.size≠km by omega) 3 (.bool iB));have bw:=Qh (bH.set (bH.set HP.o sK 2 (.int .u32 (iN:Nat))) sK 3 (.bool iB));go_upto_region 3 with fail
   clear c2 r2 c3 r3;have HC:=bo;have HO:=aU;have HZ:=bC;have HP:=bw;clear bo aU bC bw;generalize ((W3.setCell ⟨km,2,none⟩ (.int .u32 (iN:Nat))).setCell ⟨km,3,none⟩ (.bool iB))=W4 at *;cases hX:ee ki with
   | bad no ln c=>
    exact jg (wG ki oM.1 (bQ oM.head ah) kp _ HP.o) HR.o
   | ok nm dD=>
    refine kt (wG ki oM.1 (bQ oM.head ah) kp _ HP.o) HR.o (Zt hX oM) ?_;clear oM;intro cc HR yH iz;go_wp2_with fail;refine aI cc ?_;clear cc;refine O3 ?_;intro W5 HZ HC HO HP c4 r4;have bo:=Qh (show(W5.setCell ⟨km,4,none⟩ (.string ⟨nm.toArray⟩)).heap[km]? = some (.cells ((⟨t.line,t.ak,iN,iB,nm,[]⟩:bK).cells (.slice none 0 0)) 43)from (bJ HC.o 4 (.string ⟨nm.toArray⟩)));have aU:=Qh (aA.new HO.o km gO 4 (.string ⟨nm.toArray⟩));have bC:=Qh (dH HZ.o (show w.heap.size≠km by omega) 4 (.string ⟨nm.toArray⟩));have bw:=Qh (bH.set HP.o sK 4 (.string ⟨nm.toArray⟩));go_upto_region 4 with fail
    clear c4 r4;have HC:=bo;have HO:=aU;have HZ:=bC;have HP:=bw;clear bo aU bC bw;generalize (W5.setCell ⟨km,4,none⟩ (.string ⟨nm.toArray⟩))=W6 at *;obtain⟨KF,gu,jb⟩:∃ KF:List (Int×List UInt8)→List aw→PR bK,R=(nP dD.length [] dD).bind KF∧KF=fun l ts=>(cj [59] ts).bind fun _ ts=>.ok ⟨t.line,t.ak,iN,iB,nm,l⟩ ts:=⟨_,HR.o,rfl⟩
    have u5:=Qh gu;have jh:=Qh jb;clear gu jb;go_wp2_with fail;go_loopw [4,5,6] (fun x4 x5 x6 wr=>∃ (l:List (Int×List UInt8)) (v:Value) (tz:List aw) (g:Nat),di tz∧tz.length≤g∧l.length≤256∧R=(nP g l tz).bind KF∧bH wr kp tz∧aA kp w wr∧wr.heap[km]? = some (.cells ((⟨t.line,t.ak,iN,iB,nm,[]⟩:bK).cells (v)) 43)∧wr.heap[w.heap.size]? = some (.cells iD 43)∧aG wr w.heap.size 45 2 fS v l) (fun _ _ _ wr=>AA wr kp)
    case atStart=>exact⟨[],_,dD,dD.length,yH,af,aB,u5.o,HP.o,HO.o,HC.o,HZ.o,aG.nil _ _ _ _ _⟩
    case round=>
     obtain⟨l,v,tz,g,jc,hg,avt,qK,kj,qL,yJ,hzz,hown⟩:=hrel;have bm:=jc.1.pos;obtain⟨g',rfl⟩:∃ g',g=g' + 1:=⟨g - 1,ae⟩
     have mJ:=Qh (show R=(if (ax tz).kind=2 then (match qN (ax tz).text with|none=>eY 8 tz|some v=>if l.length=256 then eY 5 tz else (dJ 3 tz.tail).bind fun x aJ=>nP g' (l++[(v,x.text)]) aJ) else .ok l tz:PR (List (Int×List UInt8))).bind KF from qK);clear qK;have u6:=Qh qL;have AE:=Qh yJ;clear qL yJ;refine fx hzz hown kj (bH.cnt kj) ?_;clear kj hzz hown;intro Ey kn yP wI;obtain⟨av,cv,rfl,-⟩:=kn.o.shape;have cw:=fun W hW=>rF tz bm kp W hW
     have cg:=fun n W hW=>GK n tz bm kp W hW
     unfold eG bZ at cw;have Eu:=cw wr yP.o;go_wp2_with fail;refine aQ Eu ?_;intro eh hb;have jU:=Qh (u6.o.trans (aA.of_below kp hb));clear Eu;refine fx (yP.o.keep hb) (bF AE.o hb) (bF Ey.o hb) (kn.o.keep hb af) ?_;clear hb;intro kQ nu wJ jo;by_cases hk:(ax tz).kind=2;case neg=>
      have eT:R=KF l tz:=(by rw[mJ.o,if_neg hk];rfl);rw[jh.o]at eT;replace eT:R=(cj [59] tz).bind fun _ ts=>.ok ⟨t.line,t.ak,iN,iB,nm,l⟩ ts:=eT
      have e1:=bN hk;clear cw cg;generalize (ax tz).kind=K at *;cases hX:cj [59] tz with
      | bad no ln c=>
       have cc:=iT [59] tz jc.1 kp _ kQ.o;rw[hX]at cc eT;unfold fN at cc;have HV:=Qh (show R=.bad no ln c from eT);clear eT hX;go_wp2_with fail;refine aQ cc ?_;intro dR ho;have qR:=Qh (jU.o.trans ho);clear ho cc;go_wp2_with fail;exact⟨rfl,by rw[HV.o];exact⟨rfl,qR.o⟩⟩
      | ok tk sI=>
       have cc:=iT [59] tz jc.1 kp _ kQ.o;rw[hX]at cc eT;unfold fN at cc;have HV:=Qh (show R=.ok ⟨t.line,t.ak,iN,iB,nm,l⟩ sI from eT);clear eT hX;go_wp2_with fail;refine dF cc ?_;intro dR ho hp;have Le:=Qh (jU.o.trans ho);have OU:=Qh hp;have hce:=eJ nu.o ae ho;have AG:=eJ wJ.o ae ho;have SY:=Qh (aG.only jo.o dG ho);obtain⟨CC,fB⟩:∃ C,C=(⟨t.line,t.ak,iN,iB,nm,[]⟩:bK).cells (.slice av l.length cv):=⟨_,rfl⟩
       rw[← fB]at hce;have eB:=Qh fB;have Zy:=Qh AG;have oW:CC.size=6:=(by rw[fB];rfl);have nW:CC.all (·.oneCell')=true:=(by rw[fB];exact bK.cells_one _ _ _ _);have lU:ai dR km CC:=⟨_,hce⟩
       have bz:ai dR w.heap.size iD:=⟨_,AG⟩
       have iP:=underlying43;clear hce AG fB cc ho hp;go_wp2_with (first|(refine fG lU 43 (.tmp 3) iP vG ?_)|(refine iC (cs:=CC) bz 43 (.tmp 2) (.tmp 63) vG xj nW ?_))
       have hrun:=fo (bz.row CC) 43 _ iP rfl vG;refine bB (v:=.agg CC) (by simp[results,results94,Act.put,asAddr,hrun]) rfl ?_;rw[HV.o];refine⟨CC,rfl,⟨.slice av l.length cv,by rw[eB.o];rfl,?_,?_⟩,Le.o.row _ af CC,OU.o.row dG CC⟩
       ·exact SY.o.dn ah Zy.o (fun b _ hne=>gK _ _ _ _ hne)
       ·intro k hk;have:=(SY.o.lt k hk).2
        simpa [World.setRow]using this
     case pos=>
      have uW:R=(match qN (ax tz).text with|none=>eY 8 tz|some v=>if l.length=256 then eY 5 tz else (dJ 3 tz.tail).bind fun x aJ=>nP g' (l++[(v,x.text)]) aJ:PR (List (Int×List UInt8))).bind KF:=(by rw[mJ.o,if_pos hk]);have NW:=Qh uW;have Zz:=cw _ kQ.o;have hlen:=jc.head;have lh:=jc.tail qp;have je:=Qh (show dJ 2 tz=.ok (ax tz) tz.tail by unfold dJ;rw[if_pos ⟨hk,ah⟩]);have Cw:=fun W hW=>wF 2 tz jc.1 kp W hW
      rw[je.o]at Cw;unfold fN eG bZ at Cw;have HWR:=Qh (show(eY 8 tz:PR (List (Int×List UInt8)))=.bad 8 (ax tz).line (ax tz).ak from rfl);have HWM:=Qh (show(eY 5 tz:PR (List (Int×List UInt8)))=.bad 5 (ax tz).line (ax tz).ak from rfl);clear uW;rw[hk]at Zz ⊢;simp only[hk]at Cw;generalize (ax tz).text=T0 at *;go_wp2_with fail;refine aQ Zz ?_;intro dR hb;have Le:=Qh (jU.o.trans (aA.of_below kp hb));clear Zz cw;refine fx (kQ.o.keep hb) (bF nu.o hb) (bF wJ.o hb) (jo.o.keep hb af) ?_;clear hb;intro OU HCf Zy SY;have ag5:=Qh (HL.o _ Le.o).2;cases n9:Lib.parseIntB 64 T0 with
      | range=>
       have hi:qN T0=none:=(by unfold qN;rw[n9]);have HV:=Qh (show R=.bad 8 (ax tz).line (ax tz).ak by rw[NW.o,hi];rfl);obtain⟨ZA,y1,y2⟩:=ag5.o.rng;clear hi Cw;exact abp (Tryz.strconv_ParseInt_10_at64_range ⟨T0.toArray⟩ (by show T0.length≤_;omega) (by exact n9) ZA dR y1 y2)
      | ok u=>
       have rG:=aq3 n9;have c1:=Tryz.strconv_ParseInt_10_at64_ok ⟨T0.toArray⟩ (by show T0.length≤_;omega) u (by exact n9) dR;have ZC:=Qh (show qN T0=if Lib.itoa u=T0 then some u else none by unfold qN;rw[n9]);have cfI:=fun W hW=>aq2 u rG W hW
       clear n9 rG;go_wp2_with fail;refine aQ c1 ?_;intro wL hb0;have hb:Below dR.heap.size dR wL:=by
        rcases hb0 with rfl|⟨_,rfl⟩
        ·exact aC _ _
        ·exact Joins.below_bytesWorld _ _ _ _ af
       have HOg:=Qh (Le.o.trans (aA.of_below kp hb));have HPg:=Qh (OU.o.keep hb);refine fQ (bF HCf.o hb) (bF Zy.o hb) (SY.o.keep hb af) (cfI wL (HL.o _ HOg.o).1) ?_;intro HCg HZg aq5 cF;clear hb hb0 c1 cfI;generalize Lib.itoa u=I0 at *;go_wp2_with fail;refine aQ cF ?_;intro SZ hb;have ZD:=Qh (HOg.o.trans (aA.of_below kp hb));clear cF;refine fx (HPg.o.keep hb) (bF HCg.o hb) (bF HZg.o hb) (aq5.o.keep hb af) ?_;clear hb;intro ZE ZF HZh aq6;by_cases hI:I0=T0;case neg=>
        have HV:=Qh (show R=.bad 8 (ax tz).line (ax tz).ak by rw[NW.o,ZC.o,if_neg hI];rfl);have eI:=bN hI;have cG:=cg 8 SZ ZE.o;clear cg Cw;go_wp2_with fail;refine aQ (cG) ?_;intro W49 hb
        exact Hu (ZD.o.trans (aA.of_below kp hb))
       case pos=>
        subst hI;have c5:=ai.cell ⟨_,ZF.o⟩ 5 (.slice av l.length cv) rfl;have r5:=ai.free ⟨_,ZF.o⟩ 5;by_cases Cx:l.length=256
        ·have HV:=Qh (show R=.bad 5 (ax tz).line (ax tz).ak by
          rw[NW.o,ZC.o,if_pos rfl];simp only;rw[if_pos Cx];rfl)
         have cG:=cg 5 SZ ZE.o;clear cg Cw;rw[Cx]at c5;go_wp2_with fail;refine aQ (cG) ?_;intro W49 hb
         exact Hu (ZD.o.trans (aA.of_below kp hb))
        ·have HV:=Qh (show R=((dJ 3 tz.tail).bind fun x aJ=>nP g' (l++[(u,x.text)]) aJ).bind KF by
          rw[NW.o,ZC.o,if_pos rfl];simp only;rw[if_neg Cx])
         have avu:((l.length:Int) == 256)=false:=bN ae;have cN:=Cw SZ ZE.o;clear cg Cw;go_wp2_with fail;refine dF cN ?_;intro pH ho hp;have ny:=Qh (ZD.o.trans ho);have zl:=Qh hp;have wY:=Qh (eJ ZF.o ae ho);have pM:=Qh (eJ HZh.o ae ho);have H6:=Qh (aG.only aq6.o dG ho);have ZG:=ai.cell ⟨_,wY.o⟩ 5 (.slice av l.length cv) rfl;have r5x:=ai.free ⟨_,wY.o⟩ 5;have aqU:=tV jc;clear cN ho hp c5 r5;generalize tz.tail=NT at *;have pP:=Qh (ny.o.trans (aA.of_below kp (aC pH.heap.size pH).drew));have tY:=Qh (zl.o.keep (aC pH.heap.size pH).drew);have cn:=wF 3 NT lh.1 kp pH.drew tY.o;cases hX:dJ 3 NT with
         | bad no ln c=>
          rw[hX]at cn;unfold fN at cn;have hr:=HV.o;rw[hX,PR.ug,PR.ug]at hr;have dv:=Qh hr;clear hr hX;go_wp2_with fail;refine wX 10 (fun (w':World)=>w'.cell? ⟨km,5,none⟩=some (.slice av l.length cv)) aj ZG (fun hHeld=>?_);refine hL 0 ?_;refine aL ?_
          refine hL 1 ?_;refine aL ?_
          refine hL 2 ?_;refine aL ?_
          refine hL 3 ?_;refine zh ?_;intro K hK
          exact UB cn
         | ok x sI=>
          rw[hX]at cn;unfold fN eG bZ at cn;have hr:=HV.o;rw[hX,PR.ku]at hr;have dv:=Qh hr;obtain⟨rG,Kv⟩:=GY _ _ _ _ hX lh;clear hr hX;go_wp2_with fail;refine wX 10 (fun (w':World)=>w'.cell? ⟨km,5,none⟩=some (.slice av l.length cv)) aj ZG (fun hHeld=>?_);refine hL 0 ?_;refine aL ?_
          refine hL 1 ?_;refine aL ?_
          refine hL 2 ?_;refine aL ?_
          refine hL 3 ?_;refine zh ?_;intro K hK
          go_simp;refine dF cn ?_;intro Cy ho hp;have ag6:=Qh (eJ (W:=pH.drew) wY.o ae ho);have aq7:=Qh (eJ (W:=pH.drew) pM.o ae ho);refine fQ (pP.o.trans ho) hp (aG.only (W:=pH.drew) (H6.o.keep (aC pH.heap.size pH).drew af) dG ho) (ai.cell ⟨_,ag6.o⟩ 5 (.slice av l.length cv) rfl) ?_;intro S0 ZH aq8 ZI;have hb5:Below Cy.heap.size Cy (Cy.alloc (.cells #[.int .i64 u,.string ⟨x.text.toArray⟩] 45)):=(aC _ _).alloc af _;clear cn ho hp;clear hHeld;refine hK.o _ _ ?_ (fun hHeld=>?_)
          ·exact ZI
          clear hK K;refine aL ?_
          refine hL 5 ?_;refine aL ?_
          refine hL 6 ?_;refine aL ?_
          refine CT 7 rfl aj (fun K hK=>?_);go_simp;clear hHeld;refine hK.o _ _ ?_ (fun hHeld=>?_)
          ·exact dx ZI hb5
          clear hK K;refine aL ?_
          refine CT 8 rfl aj (fun K hK=>?_);have tW:=Qh (bF ag6.o hb5);have Cs:=Qh (bF aq7.o hb5);refine fQ (S0.o.trans (aA.of_below kp hb5)) (ZH.o.keep hb5) (aq8.o.keep hb5 af) (dK Cy (.cells #[.int .i64 u,.string ⟨x.text.toArray⟩] 45)) ?_;intro pE vd lV oO;have oP:w.heap.size≤(Cy.alloc (.cells #[.int .i64 u,.string ⟨x.text.toArray⟩] 45)).heap.size:=pE.o.size;clear hb5;generalize Cy.alloc (.cells #[.int .i64 u,.string ⟨x.text.toArray⟩] 45)=S5 at *;refine FH (en:=fS) LX l (u,x.text) (g:=Cy.heap.size) lV.o (aC w.heap.size S5) oP ae oO ?_ (hone:=PZ);refine AU ?_;intro v5 w5 fP bR fD a5 n5 c5 mG
          subst mG;have fF:=Qh (jQ tW.o lV.o ah fD);refine fQ (jQ Cs.o lV.o ah fD) (aA.low pE.o bR) (bH.low vd.o dG bR) (ai.cell ⟨_,fF.o⟩ 5 (.slice av l.length cv) rfl) ?_;intro vu iV pF kP;have qH:=ai.free ⟨_,fF.o⟩ 5;clear bR fD oO oP;clear hHeld;refine hK.o _ _ ?_ (fun hHeld=>?_)
          ·exact kP
          clear hK K;refine aL ?_
          refine hL 9 ?_;refine aL ?_
          refine Ui 10 rfl aj aj (fun K hK=>?_);go_simp;refine hK.o _ _ ?_;clear hK K;refine H5 ?_
          have eU:=Qh (bJ fF.o 5 (.slice a5 n5 c5));refine aY (dH vu.o (show w.heap.size≠km by omega) 5 (.slice a5 n5 c5)) (aA.new iV.o km gO 5 (.slice a5 n5 c5)) (bH.set pF.o sK 5 (.slice a5 n5 c5)) ?_;intro ve gJ jE;have sJ:=Qh (fP.dn ah fF.o (fun b _ hne=>dN _ ⟨km,5,none⟩ (.slice a5 n5 c5) b hne));have GX:=Qh (bH.cnt jE.o);clear fP kP qH ZG r5x ZI;go_wp2_with fail;go_roundw;case rel=>exact⟨l++[(u,x.text)],_,sI,g',rG,ae,sT,dv.o,jE.o,gJ.o,eU.o,ve.o,sJ.o⟩
          case measure=>rw[GX.o,wI.o];omega
      | _=>
       have hi:qN T0=none:=(by unfold qN;rw[n9]);have HV:=Qh (show R=.bad 8 (ax tz).line (ax tz).ak by rw[NW.o,hi];rfl);obtain⟨ZA,y1,y2⟩:=ag5.o.syn;clear hi Cw;exact abp (Tryz.strconv_ParseInt_10_at64_syntax ⟨T0.toArray⟩ (by show T0.length≤_;omega) (by exact n9) ZA dR y1 y2)
end Go.Proofs.YtfflljgnpfldfaaGreatDoor
