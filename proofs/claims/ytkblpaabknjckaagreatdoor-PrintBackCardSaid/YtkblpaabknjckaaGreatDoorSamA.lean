/-
  Are two databases the same? Contracts of the reference's looks, at equal data. (Printed by gen_sam.py.)
-/
import Derived.Test.YtkblpaabknjckaaGreatDoorBaseD
import Derived.Test.YtkblpaabknjckaaGreatDoorCopC
import Derived.Test.YtkblpaabknjckaaGreatDoorFilM
import Derived.Test.YtkblpaabknjckaaGreatDoorPrsQ
import Derived.StillTailTactics
import Derived.Laws.BitsAllLaws
import Derived.Test.YtkblpaabknjckaaGreatDoorParX
import Derived.Test.YtkblpaabknjckaaGreatDoorTxtP
import Derived.Test.YtkblpaabknjckaaGreatDoorRows
import Derived.Test.YtkblpaabknjckaaGreatDoorRatE
import Derived.BigQuiet
import Derived.Laws.IdiomStrings
import Derived.WalkLawsBesides
import Derived.Deep.CutBlock
import Derived.Deep.DeepCutAuto
import Derived.Test.YtkblpaabknjckaaGreatDoorCalm
import Derived.WalkSmall
import Derived.Deep.LoopGhost
import Derived.Test.YtkblpaabknjckaaGreatDoorRefO
import Derived.Test.YtkblpaabknjckaaGreatDoorPrsK
import Derived.Test.YtkblpaabknjckaaGreatDoorPrsJ
import Derived.Test.YtkblpaabknjckaaGreatDoorPrsO
import Derived.Test.YtkblpaabknjckaaGreatDoorRlxN
import Derived.Deep.Cut
import Derived.Test.YtkblpaabknjckaaGreatDoorLexE
import Derived.Test.YtkblpaabknjckaaGreatDoorLexB
import Derived.Test.YtkblpaabknjckaaGreatDoorLexG
import Derived.Test.YtkblpaabknjckaaGreatDoorChrE
import Derived.Test.YtkblpaabknjckaaGreatDoorAppC
set_option maxHeartbeats 128000000
set_option linter.unusedVariables false
namespace Go.Proofs.YtkblpaabknjckaaGreatDoor
open Go.Proofs.Tryz
open Go.RowKit
structure DbFit (d:DbD):Prop where
 nn:d.sta.names.length≤4000000
 mm:d.msgs.length≤4000000
 ms:∀ m∈d.msgs,m.sigs.length≤4000000∧∀ s∈m.sigs,s.rs.length≤4000000
 tt:d.tabs.length≤4000000
 ts:∀ t∈d.tabs,t.rows.length≤4000000
theorem DbD.cells_size (d:DbD) (u v z:Value):(d.cells u v z).size=9:=rfl
theorem DbD.cells_one (d:DbD) (a b c:Option Addr) (n1 n2 n3 c1 c2 c3:Nat):(d.cells (.slice a n1 c1) (.slice b n2 c2) (.slice c n3 c3)).all (·.oneCell')=true:=by unfold DbD.cells;simp[Value.oneCell']
theorem DbD.cells_set7 (d:DbD) (u v z y:Value):(d.cells u v z).setIfInBounds 7 y=d.cells u y z:=rfl
theorem DbD.cells_set8 (d:DbD) (u v z y:Value):(d.cells u v z).setIfInBounds 8 y=d.cells u v y:=rfl
theorem DbD.cells_set6 (d:DbD) (u v z y:Value):(((d.cells u v z).setIfInBounds 4 (.int .i64 d.sta.line)).setIfInBounds 5 (.int .i64 d.sta.col)).setIfInBounds 6 y=d.cells y v z:=rfl
theorem DbD.cells_4 (d:DbD) (u v z:Value):(d.cells u v z)[4]? = some (.int .i64 d.sta.line):=rfl
theorem DbD.cells_5 (d:DbD) (u v z:Value):(d.cells u v z)[5]? = some (.int .i64 d.sta.col):=rfl
theorem DbD.cells_6 (d:DbD) (u v z:Value):(d.cells u v z)[6]? = some u:=rfl
theorem DbD.cells_7 (d:DbD) (u v z:Value):(d.cells u v z)[7]? = some v:=rfl
theorem DbD.cells_8 (d:DbD) (u v z:Value):(d.cells u v z)[8]? = some z:=rfl
abbrev zeroDb:Array Value:=#[.bool false,.int .i64 0,.int .i64 0,.string ⟨#[]⟩,.int .i64 0,.int .i64 0,.slice none 0 0,.slice none 0 0,.slice none 0 0]
theorem db_zero:(prog.info? 38).map (fun i=>(i.zero,i.size))=some (some (.agg zeroDb),9):=by kernel_rfl
theorem db_size:(prog.info? 38).map (·.size)=some 9:=by kernel_rfl
theorem Blk.kindAt {w w':World} {k:Nat} {C:Array Value} {T:TypeId} (h:w.heap[k]? = some (.cells C T)) (hb:Below w.heap.size w w'):w'.heap[k]? = some (.cells C T):=by
 rw[hb.block k (gE h)];exact h
theorem setCell_at {w:World} {k:Nat} {C:Array Value} {T:TypeId} (h:w.heap[k]? = some (.cells C T)) (j:Nat) (v:Value):(w.setCell ⟨k,j,none⟩ v).heap[k]? = some (.cells (C.setIfInBounds j v) T):=by
 simp[World.setCell,Array.getElem?_modify,h]
theorem below_set {B:Nat} {a w:World} (h:Below B a w) {k:Nat} (hk:B≤k) (j:Nat) (v:Value):Below B a (w.setCell ⟨k,j,none⟩ v):=h.setCell (by show B≤k;exact hk) v
theorem setCell_ne {w:World} {k g:Nat} {o:Option Obj} (h:w.heap[g]? = o) (hk:g≠k) (j:Nat) (v:Value):(w.setCell ⟨k,j,none⟩ v).heap[g]? = o:=(Below.heap_setCell _ _ _ _ hk).trans h
theorem Owns.setAt {α:Type} {w:World} {base:Nat} {e T:TypeId} {size:Nat} {en:α→List Value} {u:Value} {xs:List α} (h:Owns w base e size en u xs) {k:Nat} {C:Array Value} (hk:w.heap[k]? = some (.cells C T)) (he:e≠T) (j:Nat) (v:Value):Owns (w.setCell ⟨k,j,none⟩ v) base e size en u xs:=
 h.apt he hk (fun b _ hne=>Below.heap_setCell _ _ _ _ hne)
theorem OwnRd.setAt {α:Type} {rd:World→α→List Value→Prop} {w:World} {base:Nat} {e T:TypeId} {size:Nat} {u:Value} {xs:List α} (h:OwnRd w base e rd size u xs) {k:Nat} {C:Array Value} (hk:w.heap[k]? = some (.cells C T)) (he:e≠T) (ha:Apt rd T) (j:Nat) (v:Value):OwnRd (w.setCell ⟨k,j,none⟩ v) base e rd size u xs:=
 h.apt he ha hk (by simp[World.setCell]) (fun b _ hne=>Below.heap_setCell _ _ _ _ hne)
set_option maxRecDepth 100000 in theorem copyDb_anyN (x : DbD) (hf : DbFit x) (w : World) (cs : Array Value) (hx : rdDb w x cs.toList) (B : Nat) (hB : B ≤ w.heap.size) :
  Calls prog 28 #[.agg cs] w fun e w'=>∃ C:Array Value,e=.returned (.agg C)∧(fdDbN B) w' x C.toList∧Below w.heap.size w w':=by
 obtain⟨a,cap,b,cb,c,cc,ecs,hs,hm,ht⟩:=hx;obtain rfl:cs=x.cells (.slice a x.sta.names.length cap) (.slice b x.msgs.length cb) (.slice c x.tabs.length cc):=Array.toList_inj.1 ecs;clear ecs;have C1:=Qh (fun W (hb:Below w.heap.size w W)=>copyMsgs_anyN x.msgs x.msgs.length rfl b cb W (hm.keep last_rdMsg hb) (by have:=hf.mm;omega) (fun m h=>⟨by have:=(hf.ms m h).1;omega,fun s hs=>by have:=(hf.ms m h).2 s hs;omega⟩) B (Nat.le_trans hB hb.size));have C2:=Qh (fun W (hb:Below w.heap.size w W)=>copyTabs_anyN x.tabs x.tabs.length rfl c cc W (ht.keep last_rdTab hb) (by have:=hf.tt;omega) (fun t h=>by have:=hf.ts t h;omega) B (Nat.le_trans hB hb.size));have C3:=Qh (fun W (hb:Below w.heap.size w W)=>copySta_anyN x.sta W #[.int .i64 x.sta.line,.int .i64 x.sta.col,.slice a x.sta.names.length cap] ⟨a,cap,rfl,hs.keep hb lrf⟩ (by have:=hf.nn;omega) B (Nat.le_trans hB hb.size));clear hs hm ht;obtain⟨n1,hn1⟩:∃ n,x.sta.names.length=n:=⟨_,rfl⟩
 obtain⟨n2,hn2⟩:∃ n,x.msgs.length=n:=⟨_,rfl⟩
 obtain⟨n3,hn3⟩:∃ n,x.tabs.length=n:=⟨_,rfl⟩
 rw[hn1]at C3;rw[hn2]at C1;rw[hn3]at C2;rw[hn1,hn2,hn3];have HN1:=Qh hn1;have HN2:=Qh hn2;have HN3:=Qh hn3;clear hn1 hn2 hn3;have E7:=Qh (DbD.cells_set7 x);have E8:=Qh (DbD.cells_set8 x);have E6:=Qh (DbD.cells_set6 x);have EO:=Qh (DbD.cells_one x);have EZ:=Qh (DbD.cells_size x);have G4:=Qh (DbD.cells_4 x);have G5:=Qh (DbD.cells_5 x);have G6:=Qh (DbD.cells_6 x);have G7:=Qh (DbD.cells_7 x);have G8:=Qh (DbD.cells_8 x);have HF:Hid (∀ w' u v z,Owns w' B 9 1 enTx u x.sta.names→OwnRd w' B 72 (fdMsgN B) 8 v x.msgs→OwnRd w' B 76 (fdTabN B) 6 z x.tabs→(fdDbN B) w' x (x.cells u v z).toList):=Qh (fun w' u v z h1 h2 h3=>⟨u,v,z,rfl,h1,h2,h3⟩);have HST:Hid (∀ w' (D:Array Value),(fdStaN B) w' x.sta D.toList→∃ v,D=#[.int .i64 x.sta.line,.int .i64 x.sta.col,v]∧Owns w' B 9 1 enTx v x.sta.names):=Qh (fun w' D ⟨v,h1,h2⟩=>⟨v,Array.toList_inj.1 h1,h2⟩);generalize x.cells=F at *;have e0:=EZ.out (.slice a n1 cap) (.slice b n2 cb) (.slice c n3 cc);have e1:=EO.out a b c n1 n2 n3 cap cb cc;have k4:=G4.out (.slice a n1 cap) (.slice b n2 cb) (.slice c n3 cc);have k5:=G5.out (.slice a n1 cap) (.slice b n2 cb) (.slice c n3 cc);have k6:=G6.out (.slice a n1 cap) (.slice b n2 cb) (.slice c n3 cc);have k7:=G7.out (.slice a n1 cap) (.slice b n2 cb) (.slice c n3 cc);have k8:=G8.out (.slice a n1 cap) (.slice b n2 cb) (.slice c n3 cc);have E7':=Qh (E7.out (.slice a n1 cap) (.slice b n2 cb) (.slice c n3 cc));generalize hC:F (.slice a n1 cap) (.slice b n2 cb) (.slice c n3 cc)=C at *;have HC:=Qh hC;clear hC;obtain⟨zb,zz,hz2,hbz⟩:=box2 w C zeroDb 38 38;have hu:=underlying38;have hb3:Below w.heap.size w (((w.alloc (.cells C 38)).alloc (.cells zeroDb 38)).alloc (.cells C 38)):=hbz.alloc (by simp;omega) _;have HB3:=Qh hb3;have K2:=Qh (show(((w.alloc (.cells C 38)).alloc (.cells zeroDb 38)).alloc (.cells C 38)).heap[w.heap.size+1]? = some (.cells zeroDb 38)by rw[Below.heap_alloc _ _ _ (by simp)];simpa using heap_alloc_new (w.alloc (.cells C 38)) (.cells zeroDb 38));have K3:=Qh (show(((w.alloc (.cells C 38)).alloc (.cells zeroDb 38)).alloc (.cells C 38)).heap[w.heap.size+1+1]? = some (.cells C 38)by simpa using heap_alloc_new ((w.alloc (.cells C 38)).alloc (.cells zeroDb 38)) (.cells C 38));have Z1:=Qh (zb.alloc (.cells C 38));have K1:=k7;have K7:=Qh (show C[7]? = some (.slice b n2 cb)from k7);have g7:∀ h,C[7]'h=.slice b n2 cb:=fun h=>by have:=k7;rw[Array.getElem?_eq_getElem h]at this;exact Option.some.inj this
 generalize x.sta.line=SL at *;generalize x.sta.col=SC at *;generalize x.sta=XS at *;go_enter func28,ntmps28
 go_wp2_with (first|(refine wpList_loadS zb 38 (.tmp 1) hu (by rw[e0];exact db_size) ?_)|(refine wpList_newS (Z:=zeroDb) (cs:=C) 38 (.tmp 3) (.tmp 4) (by rw[e0];exact db_zero) (by rw[e0];rfl) e1 ?_))
 with_reducible refine(C1.out _ hb3).mono ?_
 rintro e w1 ⟨v,rfl,ho,hb⟩;clear hb3 zb zz hz2 hbz;have hb1:=bstep HB3.out hb lrf;obtain⟨a2,c2,hv,-⟩:=ho.shape;rw[HN2.out]at hv;subst hv;have z1:=Z1.out.keep hb lrf;have k2:=Blk.kindAt K2.out hb;have k3:=Blk.kindAt K3.out hb;have f0:=cell_of_row w1 (w.heap.size+1+1) 7 C 38 (0,0) k3;rw[K7.out]at f0;have f1:w1.frozen? ⟨w.heap.size+1+1,7,none⟩=false:=Blk.free ⟨_,k3⟩ 7;have g8:=z1.cell 8 _ k8;have HO:=Qh ho;have HB1:=Qh hb1;have HZ1:=Qh z1;have HK2:=Qh k2;have HK3:=Qh k3;clear hb hb1 z1 k2 k3 ho g7 k7;go_wp2_with fail;have hb2:Below w.heap.size w (w1.setCell ⟨w.heap.size+2,7,none⟩ (.slice a2 n2 c2)):=HB1.out.setCell (by show w.heap.size≤w.heap.size+2;omega) _;with_reducible refine(C2.out _ hb2).mono ?_
 rintro e w2 ⟨v,rfl,ho,hb⟩;have HB2:=Qh (bstep hb2 hb lrf);have HS2:=Qh (Nat.le_trans hB hb2.size);have z1:=(HZ1.out.other (a:=⟨w.heap.size+2,7,none⟩) (show w.heap.size+2≠w.heap.size by omega) (.slice a2 n2 c2)).keep hb lrf;have k2:=Blk.kindAt (setCell_ne HK2.out (show w.heap.size+1≠w.heap.size+2 by omega) 7 (.slice a2 n2 c2)) hb;have k3:=Blk.kindAt (setCell_at HK3.out 7 (.slice a2 n2 c2)) hb;have HM:=Qh (((HO.out.setAt HK3.out (by decide) (apt_fdMsgN B (by decide) (by decide)) 7 (.slice a2 n2 c2)).keep (last_fdMsgN B) hb).fromBase (Nat.le_trans hB HB3.out.size));rw[E7'.out]at k3;obtain⟨a3,c3,hv,-⟩:=ho.shape;rw[HN3.out]at hv;subst hv;have f0:=cell_of_row w2 (w.heap.size+2) 8 _ 38 (0,0) k3;rw[G8.out]at f0;have f1:w2.frozen? ⟨w.heap.size+2,8,none⟩=false:=Blk.free ⟨_,k3⟩ 8;have g4:=z1.cell 4 _ k4;have g5:=z1.cell 5 _ k5;have g6:=z1.cell 6 _ k6;have HOT:=Qh ho;have HZ2:=Qh z1;have HK2':=Qh k2;have HK3':=Qh k3;clear hb hb2 z1 k2 k3 ho g8 HK2 HK3 HO HZ1 HB1;generalize w1.setCell ⟨w.heap.size+2,7,none⟩ (.slice a2 n2 c2)=w1' at *;go_wp2_with fail;have hb2:Below w.heap.size w (w2.setCell ⟨w.heap.size+2,8,none⟩ (.slice a3 n3 c3)):=HB2.out.setCell (by show w.heap.size≤w.heap.size+2;omega) _;with_reducible refine(C3.out _ hb2).mono ?_
 rintro e w3 ⟨D,rfl,hfd,hb⟩;have HB3':=Qh (bstep hb2 hb lrf);obtain⟨v,rfl,ho⟩:=HST.out _ _ hfd;obtain⟨a4,c4,hv,-⟩:=ho.shape;rw[HN1.out]at hv;subst hv;have k2:=Blk.kindAt (setCell_ne HK2'.out (show w.heap.size+1≠w.heap.size+2 by omega) 8 (.slice a3 n3 c3)) hb;have k3:=Blk.kindAt (setCell_at HK3'.out 8 (.slice a3 n3 c3)) hb;rw[E8.out]at k3;have hm:=(HM.out.setAt HK3'.out (by decide) (apt_fdMsgN B (by decide) (by decide)) 8 (.slice a3 n3 c3)).keep (last_fdMsgN B) hb;have ht:=((HOT.out.setAt HK3'.out (by decide) (apt_fdTabN B (by decide)) 8 (.slice a3 n3 c3)).keep (last_fdTabN B) hb).fromBase HS2.out;have f4:=cell_of_row w3 (w.heap.size+2) 4 _ 38 (0,0) k3;rw[G4.out]at f4;have f5:=cell_of_row w3 (w.heap.size+2) 5 _ 38 (0,0) k3;rw[G5.out]at f5;have f6:=cell_of_row w3 (w.heap.size+2) 6 _ 38 (0,0) k3;rw[G6.out]at f6;have f4f:w3.frozen? ⟨w.heap.size+2,4,none⟩=false:=Blk.free ⟨_,k3⟩ 4;have f5f:w3.frozen? ⟨w.heap.size+2,5,none⟩=false:=Blk.free ⟨_,k3⟩ 5;have f6f:w3.frozen? ⟨w.heap.size+2,6,none⟩=false:=Blk.free ⟨_,k3⟩ 6;have j3:=setCell_at (setCell_at (setCell_at k3 4 (.int .i64 SL)) 5 (.int .i64 SC)) 6 (.slice a4 n1 c4);have j2:=setCell_ne (setCell_ne (setCell_ne k2 (show w.heap.size+1≠w.heap.size+2 by omega) 4 (.int .i64 SL)) (show w.heap.size+1≠w.heap.size+2 by omega) 5 (.int .i64 SC)) (show w.heap.size+1≠w.heap.size+2 by omega) 6 (.slice a4 n1 c4);rw[E6.out]at j3;have hm':=((hm.setAt k3 (by decide) (apt_fdMsgN B (by decide) (by decide)) 4 (.int .i64 SL)).setAt (setCell_at k3 4 (.int .i64 SL)) (by decide) (apt_fdMsgN B (by decide) (by decide)) 5 (.int .i64 SC)).setAt (setCell_at (setCell_at k3 4 (.int .i64 SL)) 5 (.int .i64 SC)) (by decide) (apt_fdMsgN B (by decide) (by decide)) 6 (.slice a4 n1 c4);have ht':=((ht.setAt k3 (by decide) (apt_fdTabN B (by decide)) 4 (.int .i64 SL)).setAt (setCell_at k3 4 (.int .i64 SL)) (by decide) (apt_fdTabN B (by decide)) 5 (.int .i64 SC)).setAt (setCell_at (setCell_at k3 4 (.int .i64 SL)) 5 (.int .i64 SC)) (by decide) (apt_fdTabN B (by decide)) 6 (.slice a4 n1 c4);have ho':=((ho.setAt k3 (by decide) 4 (.int .i64 SL)).setAt (setCell_at k3 4 (.int .i64 SL)) (by decide) 5 (.int .i64 SC)).setAt (setCell_at (setCell_at k3 4 (.int .i64 SL)) 5 (.int .i64 SC)) (by decide) 6 (.slice a4 n1 c4);have hb5:=below_set (below_set (below_set HB3'.out (show w.heap.size≤w.heap.size+2 by omega) 4 (.int .i64 SL)) (show w.heap.size≤w.heap.size+2 by omega) 5 (.int .i64 SC)) (show w.heap.size≤w.heap.size+2 by omega) 6 (.slice a4 n1 c4);have HM':=Qh hm';have HT':=Qh ht';have HO':=Qh ho';have J3:Hid (Blk _ (w.heap.size+2) _):=Qh ⟨_,j3⟩;have J2:Hid (Blk _ (w.heap.size+1) _):=Qh ⟨_,j2⟩;have HB5:=Qh hb5;have K2T:=Qh j2;have q0:=EZ.out (.slice a4 n1 c4) (.slice a2 n2 c2) (.slice a3 n3 c3);have q1:=EO.out a4 a2 a3 n1 n2 n3 c4 c2 c3;clear hm' ht' ho' hb5 j3 j2 hm ht ho hb hb2 k2 k3 hfd g4 g5 g6;generalize hD:F (.slice a4 n1 c4) (.slice a2 n2 c2) (.slice a3 n3 c3)=D at *;have HD:=Qh hD;clear hD;go_wp2_with (first|(refine wpList_loadS J3.out 38 (.tmp 3) hu (by rw[q0];exact db_size) ?_)|(refine wpList_storeS J2.out 38 (.tmp 2) (.tmp 17) (by rw[q0];exact db_size) (by rw[q0];rfl) q1 ?_))
 have hrun:=run_loadS (J2.out.row D) 38 _ hu rfl (by rw[q0];exact db_size);have hb6:=below_row HB5.out (show w.heap.size≤w.heap.size+1 by omega) D;refine bodyPost_ret (v:=.agg D) (by simp[results,results28,Act.put,asAddr,hrun]) rfl ⟨D,rfl,?_,hb6⟩;rw[← HD.out];refine HF.out _ _ _ _ ?_ ?_ ?_
 ·exact Owns.apt HO'.out (by decide) K2T.out (fun b _ hne=>heap_setRow_other _ _ _ _ hne)
 ·exact OwnRd.apt HM'.out (by decide) (apt_fdMsgN B (by decide) (by decide)) K2T.out (by simp[World.setRow]) (fun b _ hne=>heap_setRow_other _ _ _ _ hne)
 ·exact OwnRd.apt HT'.out (by decide) (apt_fdTabN B (by decide)) K2T.out (by simp[World.setRow]) (fun b _ hne=>heap_setRow_other _ _ _ _ hne)
open Go.RowKit Go.Shelf
def verX (ts:List TokD):PR (Bool×VerD):=
 if seesB [86,69,82,83,73,79,78] ts then (nextR 3 ts.tail).bind fun x ts'=>(commentsR ts').bind fun _ ts''=>.ok (true,⟨(headT ts).line,(headT ts).col,x.text⟩) ts'' else .ok (false,⟨0,0,[]⟩) ts
def mssD:Nat→List MsgD→List TokD→PR (List MsgD)
 | 0,l,ts=>.ok l ts
 | f+1,l,ts=>if seesB [66,79,95] ts then (if l.length=512 then wrongR 5 ts else (messageR ts).bind fun m ts'=>(commentsR ts').bind fun _ ts''=>mssD f (l++[m]) ts'') else .ok l ts
def tbsD:Nat→List TabD→List TokD→PR (List TabD)
 | 0,l,ts=>.ok l ts
 | f+1,l,ts=>if seesB [86,65,76,95] ts then (tableR ts).bind fun m ts'=>(commentsR ts').bind fun _ ts''=>tbsD f (l++[m]) ts'' else .ok l ts
def endD (d:DbD) (ts:List TokD):PR DbD:=if (headT ts).kind=0 then .ok d ts else formR ts
def dbR (ts:List TokD):PR DbD:=
 (commentsR ts).bind fun _ ts=>(verX ts).bind fun v ts=>(mustR [66,85,95] ts).bind fun t ts=>(mustR [58] ts).bind fun _ ts=>
 (namsF ts.length [] ts).bind fun ns ts=>(commentsR ts).bind fun _ ts=>(mssD ts.length [] ts).bind fun ms ts=>
 (tbsD ts.length [] ts).bind fun tb ts=>endD ⟨v.1,v.2,⟨t.line,t.col,ns⟩,ms,tb⟩ ts
def nodsD (d:DbD):List NodeD:=(if d.has then [.ver d.ver] else [])++(.sta d.sta::(d.msgs.map .msg++d.tabs.map .tab))
def PR.map {α β:Type} (g:α→β):PR α→PR β
 | .ok x t=>.ok (g x) t
 | .bad a b c=>.bad a b c
theorem ver_map (ts:List TokD):verR ts=(verX ts).map fun v=>if v.1 then [.ver v.2] else []:=by
 unfold verR verX;split
 ·cases nextR 3 ts.tail with
  | bad a b c=>rfl
  | ok x t=>
   simp only[PR.bind_ok];cases commentsR t<;>rfl
 ·rfl
theorem mss_map (pre:List NodeD):∀ (f:Nat) (l:List MsgD) (ts:List TokD),mssF f l.length (pre++l.map .msg) ts=(mssD f l ts).map fun r=>pre++r.map .msg
 | 0,l,ts=>rfl
 | f+1,l,ts=>by
  unfold mssF mssD;split
  ·split
   ·rfl
   ·cases messageR ts with
    | bad a b c=>rfl
    | ok m t=>
     simp only[PR.bind_ok];cases commentsR t with
     | bad a b c=>rfl
     | ok u t2=>
      simp only[PR.bind_ok];have:=mss_map pre f (l++[m]) t2;simp only[List.length_append,List.length_cons,List.length_nil,List.map_append,List.map_cons,List.map_nil,Nat.zero_add]at this;rw[List.append_assoc];exact this
  ·rfl
theorem tbs_map (pre:List NodeD):∀ (f:Nat) (l:List TabD) (ts:List TokD),tbsF f (pre++l.map .tab) ts=(tbsD f l ts).map fun r=>pre++r.map .tab
 | 0,l,ts=>rfl
 | f+1,l,ts=>by
  unfold tbsF tbsD;split
  ·cases tableR ts with
   | bad a b c=>rfl
   | ok m t=>
    simp only[PR.bind_ok];cases commentsR t with
    | bad a b c=>rfl
    | ok u t2=>
     simp only[PR.bind_ok];have:=tbs_map pre f (l++[m]) t2;simp only[List.map_append,List.map_cons,List.map_nil]at this;rw[List.append_assoc];exact this
  ·rfl
theorem source_db (ts:List TokD):sourceR ts=(dbR ts).map nodsD:=by
 unfold sourceR dbR;cases commentsR ts with
 | bad a b c=>rfl
 | ok u0 ts=>
 simp only[PR.bind_ok];rw[ver_map];cases verX ts with
 | bad a b c=>rfl
 | ok v ts=>
 simp only[PR.bind_ok,PR.map];cases mustR [66,85,95] ts with
 | bad a b c=>rfl
 | ok t ts=>
 simp only[PR.bind_ok];cases mustR [58] ts with
 | bad a b c=>rfl
 | ok t1 ts=>
 simp only[PR.bind_ok];cases namsF ts.length [] ts with
 | bad a b c=>rfl
 | ok ns ts=>
 simp only[PR.bind_ok];cases commentsR ts with
 | bad a b c=>rfl
 | ok u1 ts=>
 simp only[PR.bind_ok];have h1:=mss_map ((if v.1 then [NodeD.ver v.2] else [])++[NodeD.sta ⟨t.line,t.col,ns⟩]) ts.length [] ts;rw[List.map_nil,List.append_nil,List.length_nil]at h1;rw[h1];cases mssD ts.length [] ts with
 | bad a b c=>rfl
 | ok ms ts=>
 simp only[PR.bind_ok,PR.map];have h2:=tbs_map ((if v.1 then [NodeD.ver v.2] else [])++[NodeD.sta ⟨t.line,t.col,ns⟩]++ms.map NodeD.msg) ts.length [] ts;rw[List.map_nil,List.append_nil]at h2;rw[h2];cases tbsD ts.length [] ts with
 | bad a b c=>rfl
 | ok tb ts=>
 simp only[PR.bind_ok,PR.map];unfold endR endD formR wrongR nodsD;split
 ·simp
 ·rfl
theorem bind_assoc {α β γ:Type} (r:PR α) (f:α→List TokD→PR β) (g:β→List TokD→PR γ):(r.bind f).bind g=r.bind fun x ts=>(f x ts).bind g:=by
 cases r<;>rfl
theorem wpQuiet_loadS {P:Program} {ops:Array Oper} {C:World→Prop} {Q:Act→Prop} {rest:List Oper} {o:Oper} {a:Act} {k:Nat} {cs:Array Value} (hS:∀ w,C w→Blk w k cs) (ty:TypeId) (x:Operand) {d:TypeDesc}
  (hu:P.underlying ty=some d) (hi:(P.info? ty).map (·.size)=some cs.size)
  (h:wpQuiet P ops C Q rest (a.put o.dst (.agg cs)))
  (hgd:o.guard=none:=by rfl) (ho:o.op=.load ty x:=by rfl) (hx:a.eval x=.pointer (some ⟨k,0,none⟩):=by rfl) (hd:d.isRow=true:=by rfl):wpQuiet P ops C Q (o::rest) a:=by
 unfold wpQuiet;rw[if_pos (by simp[Region.wanted,hgd])];refine⟨_,fun w hw=>?_,h⟩;unfold Oper.quietAt execOp;simp only[ho,hx,Instr.loadAt,Instr.sureAddr,Sem.run_bind,Sem.run_pure,Result.andThen_ok,run_loadS (hS w hw) ty d hu hd hi];exact⟨rfl,rfl⟩
theorem wpQuiet_loadR {P:Program} {ops:Array Oper} {C:World→Prop} {Q:Act→Prop} {rest:List Oper} {o:Oper} {a:Act} {k off:Nat} {cs:List Value} (hS:∀ w,C w→w.rangeAt k off cs) (ty:TypeId) (x:Operand) {d:TypeDesc}
  (hu:P.underlying ty=some d) (hi:(P.info? ty).map (·.size)=some cs.length)
  (h:wpQuiet P ops C Q rest (a.put o.dst (.agg cs.toArray)))
  (hgd:o.guard=none:=by rfl) (ho:o.op=.load ty x:=by rfl) (hx:a.eval x=.pointer (some ⟨k,off,none⟩):=by rfl) (hd:d.isRow=true:=by rfl):wpQuiet P ops C Q (o::rest) a:=by
 unfold wpQuiet;rw[if_pos (by simp[Region.wanted,hgd])];refine⟨_,fun w hw=>?_,h⟩;unfold Oper.quietAt execOp;simp only[ho,hx,Instr.loadAt,Instr.sureAddr,Sem.run_bind,Sem.run_pure,Result.andThen_ok,run_loadVar_mid (P:=P) w k off ty cs d (hS w hw) hu hd hi];exact⟨rfl,rfl⟩
theorem Later.range {W:World} {k off:Nat} {cs:List Value} (h:W.rangeAt k off cs) (x:Later W):x.w.rangeAt k off cs:=fun j v hv=>Later.cell (h j v hv) x
theorem sameTx_any (l:List (List UInt8)) (n m:Nat) (hn:n=l.length) (hm:m=l.length) (a b:Option Addr) (p q:Nat) (w:World) (hs:SlOf w enTx 1 a p l) (ht:SlOf w enTx 1 b q l) :
  Calls prog 58 #[.slice a n p,.slice b m q] w fun e w'=>e=.returned (.bool true)∧Below w.heap.size w w':=by
 subst hm;subst hn;have h1:=hs.len;have h2:=ht.len;go_enter func58,ntmps58
 go_wp2_with fail;go_loopw [5] (fun x wr=>∃ i:Nat,i≤l.length∧x=.int .i64 (i:Nat)∧Below w.heap.size w wr) (fun x _=>l.length - (intOf x).toNat)
 case atStart=>exact⟨0,Nat.zero_le _,rfl,Below.refl _ _⟩
 case round=>
  obtain⟨i,hi,rfl,hb⟩:=hrel;by_cases hlt:(i:Int) < l.length
  ·have hlt':i < l.length:=(by omega);obtain⟨ba,oa,rfl,hba,hc⟩:=SlX.at (hs.keep hb lrf) hlt';obtain⟨bb,ob,rfl,hbb,hd⟩:=SlX.at (ht.keep hb lrf) hlt';generalize l[i]=x at *;go_wp2_with fail;go_quiet (fail)
   go_wp2_with fail;go_roundw;case rel=>exact⟨i+1,by omega,by go_num,Go.below_drewN hb _⟩
   case measure=>simp[intOf];omega
  ·go_wp2_with fail;go_ret;exact⟨rfl,hb⟩
theorem sameRw_any (l:List (Int×List UInt8)) (n m:Nat) (hn:n=l.length) (hm:m=l.length) (a b:Option Addr) (p q:Nat) (w:World) (hs:SlOf w enRw 2 a p l) (ht:SlOf w enRw 2 b q l) :
  Calls prog 93 #[.slice a n p,.slice b m q] w fun e w'=>e=.returned (.bool true)∧Below w.heap.size w w':=by
 subst hm;subst hn;have h1:=hs.len;have h2:=ht.len;go_enter func93,ntmps93
 go_wp2_with fail;go_loopw [5] (fun x wr=>∃ i:Nat,i≤l.length∧x=.int .i64 (i:Nat)∧Below w.heap.size w wr) (fun x _=>l.length - (intOf x).toNat)
 case atStart=>exact⟨0,Nat.zero_le _,rfl,Below.refl _ _⟩
 case round=>
  obtain⟨i,hi,rfl,hb⟩:=hrel;by_cases hlt:(i:Int) < l.length
  ·have hlt':i < l.length:=(by omega);obtain⟨ba,oa,rfl,hba,hc,hc2⟩:=SlRw.at (hs.keep hb lrf) hlt';obtain⟨bb,ob,rfl,hbb,hd,hd2⟩:=SlRw.at (ht.keep hb lrf) hlt';generalize l[i]=x at *;go_wp2_with fail;go_quiet (fail)
   go_wp2_with fail;go_roundw;case rel=>exact⟨i+1,by omega,by go_num,Go.below_drewN hb _⟩
   case measure=>simp[intOf];omega
  ·go_wp2_with fail;go_ret;exact⟨rfl,hb⟩
set_option maxRecDepth 100000 in theorem sameSig_any (x : SigX) (w : World) (cs ds : Array Value) (h1 : rdSig w x cs.toList) (h2 : rdSig w x ds.toList) :
  Calls prog 120 #[.agg cs,.agg ds] w fun e w'=>e=.returned (.bool true)∧Below w.heap.size w w':=by
 obtain⟨a,p,e1,hs⟩:=h1;obtain⟨b,q,e2,ht⟩:=h2;obtain rfl:=Array.toList_inj.1 e1;obtain rfl:=Array.toList_inj.1 e2;clear e1 e2;have hb2:∀ o1 o2,Below w.heap.size w ((w.alloc o1).alloc o2):=fun o1 o2=>((Below.refl w.heap.size w).alloc lrf o1).alloc (by simp) o2
 have HC:=Qh (fun o1 o2=>sameTx_any x.rs x.rs.length x.rs.length rfl rfl a b p q _ (hs.keep (hb2 o1 o2) lrf) (ht.keep (hb2 o1 o2) lrf));have HB:=Qh hb2;clear hs ht hb2;generalize x.rs.length=n at *;unfold SigD.cells;go_enter func120,ntmps120
 go_wp2_with fail;with_reducible refine(HC.out _ _).mono ?_
 rintro e w1 ⟨rfl,hb⟩;have hb3:=bstep (HB.out _ _) hb (by simp);go_wp2_with fail;go_ret;exact⟨rfl,hb3⟩
set_option maxRecDepth 100000 in theorem sameSigs_any (l : List SigX) (n m : Nat) (hn : n = l.length) (hm : m = l.length) (a b : Option Addr) (p q : Nat) (w : World) (hs : SlRd w rdSig 19 a p l) (ht : SlRd w rdSig 19 b q l) :
  Calls prog 92 #[.slice a n p,.slice b m q] w fun e w'=>e=.returned (.bool true)∧Below w.heap.size w w':=by
 subst hm;subst hn;have hmx:l.length≤9223372036854775807:=by
  obtain⟨rows,h1,h2⟩:=hs;have:=h1.len.2.1;have:=h2.len;omega
 have hu:=underlying89;go_enter func92,ntmps92
 go_wp2_with fail;go_loopw [5] (fun x wr=>∃ i:Nat,i≤l.length∧x=.int .i64 (i:Nat)∧Below w.heap.size w wr) (fun x _=>l.length - (intOf x).toNat)
 case atStart=>exact⟨0,Nat.zero_le _,rfl,Below.refl _ _⟩
 case round=>
  obtain⟨i,hi,rfl,hb⟩:=hrel;by_cases hlt:(i:Int) < l.length
  ·have hlt':i < l.length:=(by omega);obtain⟨ba,oa,rfl,hba,cs,hcl,hrd,hrg⟩:=SlRd.at (hs.keep last_rdSig hb) (by decide) hlt';obtain⟨bb,ob,rfl,hbb,ds,hdl,hrd',hrg'⟩:=SlRd.at (ht.keep last_rdSig hb) (by decide) hlt';have c:=fun z:Later wr=>sameSig_any l[i] z.w cs.toArray ds.toArray (last_rdSig _ _ _ _ hrd z.below) (last_rdSig _ _ _ _ hrd' z.below)
   have hsz:(prog.info? 89).map (·.size)=some cs.length:=(by rw[hcl];exact sig_size);have hsz':(prog.info? 89).map (·.size)=some ds.length:=(by rw[hdl];exact sig_size);have r1:∀ v,(∃ z:Later wr,v=z.w)→v.rangeAt ba (oa+i*19) cs:=(by rintro _ ⟨z,rfl⟩;exact Later.range hrg z);have r2:∀ v,(∃ z:Later wr,v=z.w)→v.rangeAt bb (ob+i*19) ds:=(by rintro _ ⟨z,rfl⟩;exact Later.range hrg' z);clear hrd hrd' hrg hrg' hcl hdl;go_wp2_with fail;refine wp_region_later0 (by kernel_rfl) (by kernel_rfl) ?_
   repeat (first|(refine wpQuiet_loadR r1 89 (.tmp 19) hu hsz ?_;simp only[Act.put,List.setIfInBounds_toArray,List.set_cons_zero,List.set_cons_succ])|(refine wpQuiet_loadR r2 89 (.tmp 23) hu hsz' ?_;simp only[Act.put,List.setIfInBounds_toArray,List.set_cons_zero,List.set_cons_succ])|go_big_quiet_step ((go_at_call 120;with_reducible exact Later.made (c _))))
   refine wpQuiet_nil ?_;rintro _ ⟨z,rfl⟩;have hb2:=bstep hb z.below lrf;generalize z.w=w3 at *;clear c r1 r2;go_wp2_with fail;go_roundw;case rel=>exact⟨i+1,by omega,by go_num,hb2⟩
   case measure=>simp[intOf];omega
  ·go_wp2_with fail;go_ret;exact⟨rfl,hb⟩
set_option maxRecDepth 100000 in theorem sameMsg_any (x : MsgD) (w : World) (cs ds : Array Value) (h1 : rdMsg w x cs.toList) (h2 : rdMsg w x ds.toList) :
  Calls prog 56 #[.agg cs,.agg ds] w fun e w'=>e=.returned (.bool true)∧Below w.heap.size w w':=by
 obtain⟨a,p,e1,hs⟩:=h1;obtain⟨b,q,e2,ht⟩:=h2;obtain rfl:=Array.toList_inj.1 e1;obtain rfl:=Array.toList_inj.1 e2;clear e1 e2;have hb2:∀ o1 o2,Below w.heap.size w ((w.alloc o1).alloc o2):=fun o1 o2=>((Below.refl w.heap.size w).alloc lrf o1).alloc (by simp) o2
 have HC:=Qh (fun o1 o2=>sameSigs_any x.sigs x.sigs.length x.sigs.length rfl rfl a b p q _ (hs.keep last_rdSig (hb2 o1 o2)) (ht.keep last_rdSig (hb2 o1 o2)));have HB:=Qh hb2;clear hs ht hb2;generalize x.sigs.length=n at *;unfold MsgD.cells;go_enter func56,ntmps56
 go_wp2_with fail;with_reducible refine(HC.out _ _).mono ?_
 rintro e w1 ⟨rfl,hb⟩;have hb3:=bstep (HB.out _ _) hb (by simp);go_wp2_with fail;go_ret;exact⟨rfl,hb3⟩
set_option maxRecDepth 100000 in theorem sameMsgs_any (l : List MsgD) (n m : Nat) (hn : n = l.length) (hm : m = l.length) (a b : Option Addr) (p q : Nat) (w : World) (hs : SlRd w rdMsg 8 a p l) (ht : SlRd w rdMsg 8 b q l) :
  Calls prog 25 #[.slice a n p,.slice b m q] w fun e w'=>e=.returned (.bool true)∧Below w.heap.size w w':=by
 subst hm;subst hn;have hmx:l.length≤9223372036854775807:=by
  obtain⟨rows,h1,h2⟩:=hs;have:=h1.len.2.1;have:=h2.len;omega
 have hu:=underlying72;go_enter func25,ntmps25
 go_wp2_with fail;go_loopw [5] (fun x wr=>∃ i:Nat,i≤l.length∧x=.int .i64 (i:Nat)∧Below w.heap.size w wr) (fun x _=>l.length - (intOf x).toNat)
 case atStart=>exact⟨0,Nat.zero_le _,rfl,Below.refl _ _⟩
 case round=>
  obtain⟨i,hi,rfl,hb⟩:=hrel;by_cases hlt:(i:Int) < l.length
  ·have hlt':i < l.length:=(by omega);obtain⟨ba,oa,rfl,hba,cs,hcl,hrd,hrg⟩:=SlRd.at (hs.keep last_rdMsg hb) (by decide) hlt';obtain⟨bb,ob,rfl,hbb,ds,hdl,hrd',hrg'⟩:=SlRd.at (ht.keep last_rdMsg hb) (by decide) hlt';have c:=fun z:Later wr=>sameMsg_any l[i] z.w cs.toArray ds.toArray (last_rdMsg _ _ _ _ hrd z.below) (last_rdMsg _ _ _ _ hrd' z.below)
   have hsz:(prog.info? 72).map (·.size)=some cs.length:=(by rw[hcl];exact msg_size);have hsz':(prog.info? 72).map (·.size)=some ds.length:=(by rw[hdl];exact msg_size);have r1:∀ v,(∃ z:Later wr,v=z.w)→v.rangeAt ba (oa+i*8) cs:=(by rintro _ ⟨z,rfl⟩;exact Later.range hrg z);have r2:∀ v,(∃ z:Later wr,v=z.w)→v.rangeAt bb (ob+i*8) ds:=(by rintro _ ⟨z,rfl⟩;exact Later.range hrg' z);clear hrd hrd' hrg hrg' hcl hdl;go_wp2_with fail;refine wp_region_later0 (by kernel_rfl) (by kernel_rfl) ?_
   repeat (first|(refine wpQuiet_loadR r1 72 (.tmp 19) hu hsz ?_;simp only[Act.put,List.setIfInBounds_toArray,List.set_cons_zero,List.set_cons_succ])|(refine wpQuiet_loadR r2 72 (.tmp 23) hu hsz' ?_;simp only[Act.put,List.setIfInBounds_toArray,List.set_cons_zero,List.set_cons_succ])|go_big_quiet_step ((go_at_call 56;with_reducible exact Later.made (c _))))
   refine wpQuiet_nil ?_;rintro _ ⟨z,rfl⟩;have hb2:=bstep hb z.below lrf;generalize z.w=w3 at *;clear c r1 r2;go_wp2_with fail;go_roundw;case rel=>exact⟨i+1,by omega,by go_num,hb2⟩
   case measure=>simp[intOf];omega
  ·go_wp2_with fail;go_ret;exact⟨rfl,hb⟩
set_option maxRecDepth 100000 in theorem sameTab_any (x : TabD) (w : World) (cs ds : Array Value) (h1 : rdTab w x cs.toList) (h2 : rdTab w x ds.toList) :
  Calls prog 57 #[.agg cs,.agg ds] w fun e w'=>e=.returned (.bool true)∧Below w.heap.size w w':=by
 obtain⟨a,p,e1,hs⟩:=h1;obtain⟨b,q,e2,ht⟩:=h2;obtain rfl:=Array.toList_inj.1 e1;obtain rfl:=Array.toList_inj.1 e2;clear e1 e2;have hb2:∀ o1 o2,Below w.heap.size w ((w.alloc o1).alloc o2):=fun o1 o2=>((Below.refl w.heap.size w).alloc lrf o1).alloc (by simp) o2
 have HC:=Qh (fun o1 o2=>sameRw_any x.rows x.rows.length x.rows.length rfl rfl a b p q _ (hs.keep (hb2 o1 o2) lrf) (ht.keep (hb2 o1 o2) lrf));have HB:=Qh hb2;clear hs ht hb2;generalize x.rows.length=n at *;unfold TabD.cells;go_enter func57,ntmps57
 go_wp2_with fail;with_reducible refine(HC.out _ _).mono ?_
 rintro e w1 ⟨rfl,hb⟩;have hb3:=bstep (HB.out _ _) hb (by simp);go_wp2_with fail;go_ret;exact⟨rfl,hb3⟩
set_option maxRecDepth 100000 in theorem sameTabs_any (l : List TabD) (n m : Nat) (hn : n = l.length) (hm : m = l.length) (a b : Option Addr) (p q : Nat) (w : World) (hs : SlRd w rdTab 6 a p l) (ht : SlRd w rdTab 6 b q l) :
  Calls prog 26 #[.slice a n p,.slice b m q] w fun e w'=>e=.returned (.bool true)∧Below w.heap.size w w':=by
 subst hm;subst hn;have hmx:l.length≤9223372036854775807:=by
  obtain⟨rows,h1,h2⟩:=hs;have:=h1.len.2.1;have:=h2.len;omega
 have hu:=underlying76;go_enter func26,ntmps26
 go_wp2_with fail;go_loopw [5] (fun x wr=>∃ i:Nat,i≤l.length∧x=.int .i64 (i:Nat)∧Below w.heap.size w wr) (fun x _=>l.length - (intOf x).toNat)
 case atStart=>exact⟨0,Nat.zero_le _,rfl,Below.refl _ _⟩
 case round=>
  obtain⟨i,hi,rfl,hb⟩:=hrel;by_cases hlt:(i:Int) < l.length
  ·have hlt':i < l.length:=(by omega);obtain⟨ba,oa,rfl,hba,cs,hcl,hrd,hrg⟩:=SlRd.at (hs.keep last_rdTab hb) (by decide) hlt';obtain⟨bb,ob,rfl,hbb,ds,hdl,hrd',hrg'⟩:=SlRd.at (ht.keep last_rdTab hb) (by decide) hlt';have c:=fun z:Later wr=>sameTab_any l[i] z.w cs.toArray ds.toArray (last_rdTab _ _ _ _ hrd z.below) (last_rdTab _ _ _ _ hrd' z.below)
   have hsz:(prog.info? 76).map (·.size)=some cs.length:=(by rw[hcl];exact tab_size);have hsz':(prog.info? 76).map (·.size)=some ds.length:=(by rw[hdl];exact tab_size);have r1:∀ v,(∃ z:Later wr,v=z.w)→v.rangeAt ba (oa+i*6) cs:=(by rintro _ ⟨z,rfl⟩;exact Later.range hrg z);have r2:∀ v,(∃ z:Later wr,v=z.w)→v.rangeAt bb (ob+i*6) ds:=(by rintro _ ⟨z,rfl⟩;exact Later.range hrg' z);clear hrd hrd' hrg hrg' hcl hdl;go_wp2_with fail;refine wp_region_later0 (by kernel_rfl) (by kernel_rfl) ?_
   repeat (first|(refine wpQuiet_loadR r1 76 (.tmp 19) hu hsz ?_;simp only[Act.put,List.setIfInBounds_toArray,List.set_cons_zero,List.set_cons_succ])|(refine wpQuiet_loadR r2 76 (.tmp 23) hu hsz' ?_;simp only[Act.put,List.setIfInBounds_toArray,List.set_cons_zero,List.set_cons_succ])|go_big_quiet_step ((go_at_call 57;with_reducible exact Later.made (c _))))
   refine wpQuiet_nil ?_;rintro _ ⟨z,rfl⟩;have hb2:=bstep hb z.below lrf;generalize z.w=w3 at *;clear c r1 r2;go_wp2_with fail;go_roundw;case rel=>exact⟨i+1,by omega,by go_num,hb2⟩
   case measure=>simp[intOf];omega
  ·go_wp2_with fail;go_ret;exact⟨rfl,hb⟩
set_option maxRecDepth 100000 in theorem sameSta_any (x : StaD) (w : World) (cs ds : Array Value) (h1 : rdSta w x cs.toList) (h2 : rdSta w x ds.toList) :
  Calls prog 27 #[.agg cs,.agg ds] w fun e w'=>e=.returned (.bool true)∧Below w.heap.size w w':=by
 obtain⟨a,p,e1,hs⟩:=h1;obtain⟨b,q,e2,ht⟩:=h2;obtain rfl:=Array.toList_inj.1 e1;obtain rfl:=Array.toList_inj.1 e2;clear e1 e2;have hb2:∀ o1 o2,Below w.heap.size w ((w.alloc o1).alloc o2):=fun o1 o2=>((Below.refl w.heap.size w).alloc lrf o1).alloc (by simp) o2
 have HC:=Qh (fun o1 o2=>sameTx_any x.names x.names.length x.names.length rfl rfl a b p q _ (hs.keep (hb2 o1 o2) lrf) (ht.keep (hb2 o1 o2) lrf));have HB:=Qh hb2;clear hs ht hb2;generalize x.names.length=n at *;unfold StaD.cells;go_enter func27,ntmps27
 go_wp2_with fail;with_reducible refine(HC.out _ _).mono ?_
 rintro e w1 ⟨rfl,hb⟩;have hb3:=bstep (HB.out _ _) hb (by simp);go_wp2_with fail;go_ret;exact⟨rfl,hb3⟩
set_option maxRecDepth 100000 in theorem sameDb_any (x : DbD) (w : World) (cs ds : Array Value) (h1 : rdDb w x cs.toList) (h2 : rdDb w x ds.toList) :
  Calls prog 10 #[.agg cs,.agg ds] w fun e w'=>e=.returned (.bool true)∧Below w.heap.size w w':=by
 obtain⟨a,p,b,q,c,r,e1,hs,hm,ht⟩:=h1;obtain⟨a',p',b',q',c',r',e2,hs',hm',ht'⟩:=h2;obtain rfl:=Array.toList_inj.1 e1;obtain rfl:=Array.toList_inj.1 e2;clear e1 e2;have hb2:∀ o1 o2,Below w.heap.size w ((w.alloc o1).alloc o2):=fun o1 o2=>((Below.refl w.heap.size w).alloc lrf o1).alloc (by simp) o2
 have C1:=Qh (fun W (hb:Below w.heap.size w W)=>sameMsgs_any x.msgs x.msgs.length x.msgs.length rfl rfl b b' q q' W (hm.keep last_rdMsg hb) (hm'.keep last_rdMsg hb));have C2:=Qh (fun W (hb:Below w.heap.size w W)=>sameTabs_any x.tabs x.tabs.length x.tabs.length rfl rfl c c' r r' W (ht.keep last_rdTab hb) (ht'.keep last_rdTab hb));have C3:=Qh (fun W (hb:Below w.heap.size w W)=>sameSta_any x.sta W #[.int .i64 x.sta.line,.int .i64 x.sta.col,.slice a x.sta.names.length p] #[.int .i64 x.sta.line,.int .i64 x.sta.col,.slice a' x.sta.names.length p'] ⟨a,p,rfl,hs.keep hb lrf⟩ ⟨a',p',rfl,hs'.keep hb lrf⟩);have HB:=Qh hb2;clear hs ht hm hs' ht' hm' hb2;generalize x.msgs.length=n1 at *;generalize x.tabs.length=n2 at *;generalize x.sta.names.length=n3 at *;unfold DbD.cells;obtain⟨zb,zb',-,hbz⟩:=box2 w #[.bool x.has,.int .i64 x.ver.line,.int .i64 x.ver.col,.string ⟨x.ver.text.toArray⟩,.int .i64 x.sta.line,.int .i64 x.sta.col,.slice a n3 p,.slice b n1 q,.slice c n2 r] #[.bool x.has,.int .i64 x.ver.line,.int .i64 x.ver.col,.string ⟨x.ver.text.toArray⟩,.int .i64 x.sta.line,.int .i64 x.sta.col,.slice a' n3 p',.slice b' n1 q',.slice c' n2 r'] 38 38;have BZ:=Qh hbz;have Z1:=Qh zb;have Z2:=Qh zb';clear hbz zb zb' HB;generalize x.ver.text=vt at *;generalize x.ver.line=vl at *;generalize x.ver.col=vc at *;generalize x.sta.line=sl at *;generalize x.sta.col=sc at *;generalize x.has=hv at *;go_enter func10,ntmps10
 go_wp2_with fail;with_reducible refine(C1.out _ BZ.out).mono ?_
 rintro e w1 ⟨rfl,hb⟩;have z1:=Z1.out.keep hb lrf;have z2:=Z2.out.keep hb lrf;have B1:=Qh (bstep BZ.out hb lrf);have f1:=z1.cell 8 _ rfl;have f2:=z2.cell 8 _ rfl;have Y1:=Qh z1;have Y2:=Qh z2;clear hb z1 z2;go_wp2_with fail;with_reducible refine(C2.out _ B1.out).mono ?_
 rintro e w2 ⟨rfl,hb⟩;have z1:=Y1.out.keep hb lrf;have z2:=Y2.out.keep hb lrf;have B2:=Qh (bstep B1.out hb lrf);have k1:=z1.cell 4 _ rfl;have k2:=z1.cell 5 _ rfl;have k3:=z1.cell 6 _ rfl;have l1:=z2.cell 4 _ rfl;have l2:=z2.cell 5 _ rfl;have l3:=z2.cell 6 _ rfl;clear hb z1 z2 f1 f2;go_wp2_with fail;with_reducible refine(C3.out _ B2.out).mono ?_
 rintro e w3 ⟨rfl,hb⟩;have B3:=Qh (bstep B2.out hb lrf);clear hb k1 k2 k3 l1 l2 l3;go_wp2_with fail;go_ret;exact⟨rfl,B3.out⟩
end Go.Proofs.YtkblpaabknjckaaGreatDoor
