/-
  The reference's reader of a file: contract. (Printed by gen_redl.py.)
-/
import Derived.Test.YtfflljgnpfldfaaGreatDoorSamA
set_option linter.all false
set_option maxHeartbeats 128000000
set_option maxRecDepth 100000
namespace Go.Proofs.YtfflljgnpfldfaaGreatDoor
open Go.Proofs.Tryz
open Go.RowKit Go.Shelf
def iW:aS:=⟨false,⟨0,0,[]⟩,⟨0,0,[]⟩,[],[]⟩
theorem aZ.Hs {α:Type} {rd:World→α→List Value→Prop} {w w':World} {B kr:Nat} {T:List aw} {st:aF} {e:TypeId} {size:Nat} {v:Value} {xs:List α} (h:aZ w B e rd size v xs) (hp:bD w kr T st) (ho:aA kr w w') (he:e≠126) (ha:kI rd 126):aZ w' B e rd size v xs:=by
 obtain⟨C,hC⟩:=hp.kind;exact h.dn he ha hC ho.size fun b hb hne=>ho.block b hb Iq
theorem aZ.sub {α:Type} {rd zO:World→α→List Value→Prop} {w:World} {base:Nat} {e:TypeId} {size:Nat} {v:Value} {xs:List α} (h:aZ w base e rd size v xs) (hm:∀ x cs,rd w x cs→zO w x cs):aZ w base e zO size v xs:=by
 exact UX h
theorem ast {b b':Nat} {w:World} {x:et} {cs:List Value} (h:mW b w x cs) (hb:b'≤b):mW b' w x cs:=by
 obtain⟨v,h1,h2⟩:=h;exact Ls
theorem aaX {b b':Nat} {w:World} {x:bj} {cs:List Value} (h:jK b w x cs) (hb:b'≤b):jK b' w x cs:=by
 obtain⟨v,h1,h2⟩:=h;exact⟨v,h1,(h2.fU hb).sub fun y cs hy=>ast hy hb⟩
theorem ahT {b b':Nat} {w:World} {x:bK} {cs:List Value} (h:nN b w x cs) (hb:b'≤b):nN b' w x cs:=by
 obtain⟨v,h1,h2⟩:=h;exact Ls
theorem aiD {b:Nat} {w:World} {x:bj} {C:Array Value} (h:jK b w x C.toList):C.size=8∧C.all (·.oneCell')=true:=by
 obtain⟨v,h1,h2⟩:=h;obtain rfl:=eA.1 h1;obtain⟨a,c,rfl,-⟩:=h2.shape;exact⟨rfl,bj.cells_one _ _ _ _⟩
theorem asu {b:Nat} {w:World} {x:bK} {C:Array Value} (h:nN b w x C.toList):C.size=6∧C.all (·.oneCell')=true:=by
 obtain⟨v,h1,h2⟩:=h;obtain rfl:=eA.1 h1;obtain⟨a,c,rfl,-⟩:=h2.shape;exact⟨rfl,bK.cells_one _ _ _ _⟩
theorem aaj {P:Program} {ops:Array Oper} {o:Oper} {a:Act} {w:World} {K:Act→World→Prop} {Q:Exit→Act→World→Prop} {E:Prop} {k:Nat} {old cs:Array Value} (hb:ai w k old) (ty:TypeId) (x y:Operand)
  (hi:(P.info? ty).map (·.size)=some cs.size) (hs:old.size=cs.size) (h1:cs.all (·.oneCell')=true) (h:K (a.put o.dst undef) (w.setRow k cs))
  (hgd:o.guard=none:=by rfl) (ho:o.op=.store ty x y:=by rfl) (hx:a.eval x=.pointer (some ⟨k,0,none⟩):=by rfl) (hy:a.eval y=.agg cs:=by rfl) :
  if Region.wanted o (yielded ops a.tmps)=true then Oper.wp P o a w K Q else E:=by
 obtain⟨T,hb⟩:=hb;refine Ia ?_;refine Uj ?_;exact h
theorem ahU {T:List aw} {i j:Nat} (hi:i < T.length) (hj:j < T.length) (h:T.drop i=T.drop j):i=j:=by
 have:=jA List.length h;rw[e7,e7]at this;omega
theorem ahV {α:Type} {rd:World→α→List Value→Prop} {w:World} {B:Nat} {e T2 T4:TypeId} {size:Nat} {v:Value} {xs:List α} {k2 k4:Nat} {C2 C4 CC:Array Value} (h:aZ w B e rd size v xs) (h2:w.heap[k2]? = some (.cells C2 T2)) (h4:w.heap[k4]? = some (.cells C4 T4)) (hne:k4≠k2) (rZ:e≠T2) (he4:e≠T4) (ha2:kI rd T2) (ha4:kI rd T4) (x y:Value) :
  aZ (((w.setRow k2 CC).setCell ⟨k4,0,none⟩ x).setCell ⟨k4,1,none⟩ y) B e rd size v xs:=by
 have g1:=h.dn rZ ha2 h2 (w':=w.setRow k2 CC) qX (fun b _ hb=>gK _ _ _ _ hb);have k1:(w.setRow k2 CC).heap[k4]? = some (.cells C4 T4):=(gK _ _ _ _ hne).trans h4;have g2:=g1.dn he4 ha4 k1 (w':=(w.setRow k2 CC).setCell ⟨k4,0,none⟩ x) pR (fun b _ hb=>dN _ ⟨k4,0,none⟩ x b hb);have k2':=bJ k1 0 x;exact g2.dn he4 ha4 k2' pR (fun b _ hb=>dN _ ⟨k4,1,none⟩ y b hb)
theorem aiA {wo w':World} {T:List aw} {x:aS} {no L C:Int} (h:(aF.ok T).run iW mq=(x,.bad no L C)) (hb:Below wo.heap.size wo w'):yi wo (.good T) (.returned (.tuple #[.agg bf,.int .i64 no,.agg #[.int .i64 L,.int .i64 C]])) w':=by
 unfold aF.run at h;unfold yi;simp only at h ⊢;cases hp:mq T with
 | ok y t=>rw[hp]at h;cases h
 | bad a b c=>rw[hp]at h;cases h;exact uy
theorem asv {wo w':World} {T ts:List aw} {x:aS} {u v z:Value} {B:Nat} (h:(aF.ok T).run iW mq=(x,.ok ts)) (hb:Below wo.heap.size wo w') (hB:wo.heap.size≤B) (h1:aG w' B 9 1 dr u x.aR.names) (h2:aZ w' B 39 (jK B) 8 v x.msgs) (h3:aZ w' B 43 (nN B) 6 z x.tabs) :
  yi wo (.good T) (.returned (.tuple #[.agg (x.cells u v z),.int .i64 0,.agg #[.int .i64 0,.int .i64 0]])) w':=by
 unfold aF.run at h;unfold yi;simp only at h ⊢;cases hp:mq T with
 | ok y t=>
  rw[hp]at h;cases h
  exact⟨_,rfl,⟨u,v,z,rfl,h1.fU hB,(h2.fU hB).sub fun y cs hy=>aaX hy hB,(h3.fU hB).sub fun y cs hy=>ahT hy hB⟩,hb⟩
 | bad a b c=>rw[hp]at h;cases h
theorem amk (s:List UInt8) (hs:s.length≤9223372036854775807) (hk:∀ T,gB s=.good T→mD T) (wo:World) :
  Calls prog 22 #[.string ⟨s.toArray⟩] wo (yi wo (gB s)):=by
 have cS:=fun w=>asw s hs w
 obtain⟨V,hV⟩:∃ V,V=gB s:=⟨_,rfl⟩
 rw[← hV]at cS hk ⊢;clear hV;obtain⟨b2,b4,hsz,hb0⟩:=rj wo bf #[.int .i64 0,.int .i64 0] 33 24;have hu:=underlying33;have Uc:=underlying24;have hf0:=pC;have hf2:=yF;have dS:=Qh hb0;have bC:=Qh (show((wo.alloc (.cells bf 33)).alloc (.cells #[.int .i64 0,.int .i64 0] 24)).heap[wo.heap.size]? = some (.cells bf 33)from bF (dK wo _) ((aC _ _).alloc af _));have pM:=Qh (show((wo.alloc (.cells bf 33)).alloc (.cells #[.int .i64 0,.int .i64 0] 24)).heap[wo.heap.size+1]? = some (.cells #[.int .i64 0,.int .i64 0] 24)by simpa using dK (wo.alloc (.cells bf 33)) (.cells #[.int .i64 0,.int .i64 0] 24));have gD:=Qh hsz;have cS:=cS ((wo.alloc (.cells bf 33)).alloc (.cells #[.int .i64 0,.int .i64 0] 24));clear hb0 b2 b4 hsz;go_enter func22,ntmps22
 go_wp2_with fail;refine aI cS ?_;generalize (wo.alloc (.cells bf 33)).alloc (.cells #[.int .i64 0,.int .i64 0] 24)=W0 at *;cases V with
 | bad v=>
  rintro e w1 ⟨no,L,C,rfl,hb,he⟩;have HE:=Qh he;have bX:=Qh (aH dS.o hb af);have mF:no≠0:=(by have:=he.2.1;omega);have e0:=bN mF;have b2:ai (w1.alloc (.cells #[.int .i64 L,.int .i64 C] 24)) wo.heap.size bf:=ai.alloc ⟨_,bF bC.o hb⟩ _;have b4:ai (w1.alloc (.cells #[.int .i64 L,.int .i64 C] 24)) (wo.heap.size+1) #[.int .i64 0,.int .i64 0]:=ai.alloc ⟨_,bF pM.o hb⟩ _;have b7:=ai.new w1 #[.int .i64 L,.int .i64 C] 24;have aM:=Qh (bX.o.alloc bX.o.size (.cells #[.int .i64 L,.int .i64 C] 24));have hlt:wo.heap.size+1 < w1.heap.size:=(by have h1:=gD.o;have h2:=hb.size;omega);obtain⟨t0,t1,g0,g1⟩:=b7.two;clear hb he cS hk;go_wp2_with fail;generalize w1.alloc (.cells #[.int .i64 L,.int .i64 C] 24)=W at *;have EL:ai W.drew wo.heap.size bf:=b2.keep (aC W.heap.size W).drew af;have y9:ai (W.drew.setRow wo.heap.size bf) (wo.heap.size+1) #[.int .i64 0,.int .i64 0]:=(b4.keep (aC W.heap.size W).drew af).A9 ae _;obtain⟨r0,r1,q0,q1⟩:=y9.two;have Tq:ai (W.drew.setRow wo.heap.size bf) w1.heap.size #[.int .i64 L,.int .i64 C]:=(b7.keep (aC W.heap.size W).drew af).A9 ae _;refine xt (S:=(fun (w':World)=>w'.cell? ⟨w1.heap.size,0,none⟩=some (.int .i64 L)∧w'.cell? ⟨w1.heap.size,1,none⟩=some (.int .i64 C))) aj ⟨t0,t1⟩ (fun hHeld=>?_);refine hT 0 ?_;refine aL ?_
  refine hT 1 ?_;refine aL ?_
  refine hT 2 ?_;refine Lo ?_;intro K hK
  refine aaj (cs:=bf) EL 33 (.tmp 2) (.tmp 23) jw rfl uz ?_;clear hHeld;refine hK.o _ _ ?_ (fun hHeld=>?_)
  ·exact⟨Tq.cell 0 _ rfl,Tq.cell 1 _ rfl⟩
  clear hK K;refine aL ?_
  refine hT 4 ?_;refine aL ?_
  refine jS 5 rfl aj (fun K hK=>?_);go_simp;clear hHeld;refine hK.o _ _ ?_ (fun hHeld=>?_)
  ·exact⟨((Tq.other (a:=⟨wo.heap.size+1,0,none⟩) PN _).other (a:=⟨wo.heap.size+1,1,none⟩) PN _).cell 0 _ rfl,((Tq.other (a:=⟨wo.heap.size+1,0,none⟩) PN _).other (a:=⟨wo.heap.size+1,1,none⟩) PN _).cell 1 _ rfl⟩
  clear hK K;refine wS ?_
  try go_wp2_with fail
  have bF2:=((EL.row bf).other (a:=⟨wo.heap.size+1,0,none⟩) Db (.int .i64 L)).other (a:=⟨wo.heap.size+1,1,none⟩) Db (.int .i64 C);have bF4:ai _ (wo.heap.size+1) #[.int .i64 L,.int .i64 C]:=(y9.put 0 (.int .i64 L)).put 1 (.int .i64 C);have aak:=fo bF2 33 _ hu rfl jw;have aal:=fo bF4 24 _ Uc rfl Ud;refine bB (v:=.tuple #[.agg bf,.int .i64 no,.agg #[.int .i64 L,.int .i64 C]]) (by simp[results,results22,Act.put,asAddr,aak,aal]) rfl ?_;exact⟨no,L,C,rfl,((pL aM.o.drew af bf).setCell (p:=⟨wo.heap.size+1,0,none⟩) PO _).setCell (p:=⟨wo.heap.size+1,1,none⟩) PO _,HE.o⟩
 | good T=>
  rintro e w1 ⟨a,c,rfl,hown,hb⟩;have gZ:=hk T rfl;have bm:=gZ.b.1.pos;have hlen:=gZ.b.2.2;have hb2:Below w1.heap.size w1 ((w1.alloc (.cells #[.int .i64 0,.int .i64 0] 24)).alloc (.cells #[.slice a T.length c,.int .i64 0,.int .i64 0,.int .i64 0,.int .i64 0] 126)):=((aC _ _).alloc af _).alloc aB _;have hlt:wo.heap.size+1 < w1.heap.size:=(by have h1:=gD.o;have h2:=hb.size;omega);have HB:=Qh (aH (aH dS.o hb af) hb2 af);have b2:=bF (bF bC.o hb) hb2;have b4:=bF (bF pM.o hb) hb2;have HP:=Qh (show bD ((w1.alloc (.cells #[.int .i64 0,.int .i64 0] 24)).alloc (.cells #[.slice a T.length c,.int .i64 0,.int .i64 0,.int .i64 0,.int .i64 0] 126)) (w1.heap.size+1) T (.ok T)by
   refine⟨0,bm,rfl,a,c,by simpa using dK (w1.alloc (.cells #[.int .i64 0,.int .i64 0] 24)) (.cells #[.slice a T.length c,.int .i64 0,.int .i64 0,.int .i64 0,.int .i64 0] 126),?_,fun b o e=>?_⟩
   ·obtain⟨a',c',e,iQ⟩:=(hown.keep hb2 af).shape;cases e
    exact iQ
   ·have:=(hown.lt b lD).2;omega)
  have dG:w1.heap.size+1 < ((w1.alloc (.cells #[.int .i64 0,.int .i64 0] 24)).alloc (.cells #[.slice a T.length c,.int .i64 0,.int .i64 0,.int .i64 0,.int .i64 0] 126)).heap.size:=aB;clear hb hown cS hk hb2 dS bC pM gD hs;go_upto_region 5 with fail
  generalize (w1.alloc (.cells #[.int .i64 0,.int .i64 0] 24)).alloc (.cells #[.slice a T.length c,.int .i64 0,.int .i64 0,.int .i64 0,.int .i64 0] 126)=w at *;have hzk:wo.heap.size+1 < w1.heap.size+1:=ae;generalize w1.heap.size+1=kr at *;clear hlt;have bC:=Qh b2;have pM:=Qh b4;clear b2 b4;have cH:Below w.heap.size w (w.alloc (.cells bf 33)):=(aC _ _).alloc af _;have HC:=Qh (show(w.alloc (.cells bf 33)).heap[w.heap.size]? = some (.cells ((⟨false,⟨0,0,[]⟩,⟨0,0,[]⟩,[],[]⟩:aS).cells (.slice none 0 0) (.slice none 0 0) (.slice none 0 0)) 33)from dK w _);have HO:=Qh (aA.of_below kr cH);replace HP:=Qh (HP.o.keep cH);obtain⟨R,hR⟩:∃ R,R=(aF.ok T).run iW mq:=⟨_,rfl⟩
  have aam:=Qh hR;unfold mq at hR;have HR:=Qh hR;clear hR cH;go_upto_region 6 with fail
  have cz:w.heap.size≤w.heap.size:=af;have dL:kr < w.heap.size:=dG;generalize w.alloc (.cells bf 33)=Y0 at *;generalize ij:w.heap.size=ks at cz dL HC ⊢;have cz:w.heap.size≤ks:=Nat.le_of_eq ij;clear ij;have cc:=KH T gZ (aF.ok T) kr _ HP.o;refine Ll (iA () HR.o) ?_;intro u0 s1 cc HR
  go_wp2_with fail;refine Lc cc ?_;clear cc;intro Y2 HC HO HP;obtain⟨KV,gu,hKV⟩:∃ KV:Bool×zQ→List aw→PR aS,R=s1.run iW (fun ts=>(qE ts).bind KV)∧KV=fun v ts=>(cj [66,85,95] ts).bind fun t ts=>(cj [58] ts).bind fun _ ts=>
   (jr ts.length [] ts).bind fun ns ts=>(dQ ts).bind fun _ ts=>(jl ts.length [] ts).bind fun ms ts=>
   (jC ts.length [] ts).bind fun tb ts=>uQ ⟨v.1,v.2,⟨t.line,t.ak,ns⟩,ms,tb⟩ ts:=⟨_,HR.o,rfl⟩
  have Ol:=Qh hKV;replace HR:=Qh gu;clear gu hKV;have cs:=EJ 1 [86,69,82,83,73,79,78] T gZ s1 kr _ HP.o;go_wp2_with fail;refine aI cs ?_;refine Hq ?_;intro Y90 hb HC HO HP;clear cs hb;go_upto_if 32 with (fail)
  go_cut [3] (fun x ws=>∃ (bv:Bool) (vl vc:Int) (vt:List UInt8) (sV:aF),x=.int .i64 0∧R=sV.run iW (fun ts=>(cj [66,85,95] ts).bind fun t ts=>(cj [58] ts).bind fun _ ts=>(jr ts.length [] ts).bind fun ns ts=>(dQ ts).bind fun _ ts=>(jl ts.length [] ts).bind fun ms ts=>(jC ts.length [] ts).bind fun tb ts=>uQ ⟨bv,⟨vl,vc,vt⟩,⟨t.line,t.ak,ns⟩,ms,tb⟩ ts)∧ws.heap[ks]? = some (.cells ((⟨bv,⟨vl,vc,vt⟩,⟨0,0,[]⟩,[],[]⟩:aS).cells (.slice none 0 0) (.slice none 0 0) (.slice none 0 0)) 33)∧aA kr w ws∧bD ws kr T sV)
  case first=>
   cases hS:s1.sees 1 [86,69,82,83,73,79,78]with
   | false=>
    have hst:∀ ts,s1=.ok ts→dt [86,69,82,83,73,79,78] ts=false:=fun ts e=>by
     rw[e]at hS;have ia:=HP.o;rw[e]at ia;obtain⟨j,hj,rfl,-⟩:=ia;rw[← sL gZ hj (k:=1) ⟨86,[69,82,83,73,79,78],rfl,.inl ⟨rfl,ah⟩⟩];exact hS
    have hv:=HR.o;rw[arR iW KV hst,Ol.o]at hv;try dsimp only at hv
    replace HR:=Qh hv;clear hS hst hv Ol;go_wp2_with fail;go_meet
    case rel=>exact⟨false,0,0,[],s1,rfl,HR.o,HC.o,HO.o,HP.o⟩
   | true=>
    have hex:∃ j,j < T.length∧s1=.ok (T.drop j):=by
     have ia:=HP.o;cases hq:s1 with
     | bad a b c=>rw[hq]at hS;cases hS
     | ok ts=>
      rw[hq]at ia;obtain⟨j,hj,rfl,-⟩:=ia;exact⟨j,hj,rfl⟩
    obtain⟨j,hj,rfl⟩:=hex;rw[sL gZ hj (k:=1) ⟨86,[69,82,83,73,79,78],rfl,.inl ⟨rfl,ah⟩⟩]at hS;have HK:=Qh (mY hS);have hv:=HR.o;rw[arS iW KV hS]at hv;replace HR:=Qh hv;clear hS hv;have c0:=ai.cell ⟨_,HC.o⟩ 0 (.bool false) rfl;have r0:=ai.free ⟨_,HC.o⟩ 0;have bo:=Qh (show(Y90.setCell ⟨ks,0,none⟩ (.bool true)).heap[ks]? = some (.cells ((⟨true,⟨0,0,[]⟩,⟨0,0,[]⟩,[],[]⟩:aS).cells (.slice none 0 0) (.slice none 0 0) (.slice none 0 0)) 33)from (bJ HC.o 0 (.bool true)));have aU:=Qh (aA.new HO.o ks cz 0 (.bool true));have bw:=Qh (bD.set HP.o dL 0 (.bool true));go_upto_region 9 with fail
    clear c0 r0;replace HC:=bo;replace HO:=aU;replace HP:=bw;clear bo aU bw;generalize (Y90.setCell ⟨ks,0,none⟩ (.bool true))=Y6 at *;obtain⟨jx,hjx,R9,gS⟩:=HP.o;obtain rfl:j=jx:=ahU hj hjx R9;have cs:=nw T bm hlen j 0 0 0 kr _ (gV hj) gS;rw[pQ hj]at cs;unfold eG bZ at cs;generalize ax (T.drop j)=tv at cs HR;clear gS;go_wp2_with fail;refine aI cs ?_;refine Hq ?_;intro Y5 hb HC HO HP;clear cs hb;have c1:=ai.cell ⟨_,HC.o⟩ 1 (.int .i64 0) rfl;have r1:=ai.free ⟨_,HC.o⟩ 1;have c2:=ai.cell ⟨_,HC.o⟩ 2 (.int .i64 0) rfl;have r2:=ai.free ⟨_,HC.o⟩ 2;have avQ:∀ v,(Y5.setCell ⟨ks,1,none⟩ v).cell? ⟨ks,2,none⟩=some (.int .i64 0):=fun v=>ai.cell ⟨_,bJ HC.o 1 v⟩ 2 _ rfl
    have avR:∀ v,(Y5.setCell ⟨ks,1,none⟩ v).frozen? ⟨ks,2,none⟩=false:=fun v=>ai.free ⟨_,bJ HC.o 1 v⟩ 2
    have bo:=Qh (show((Y5.setCell ⟨ks,1,none⟩ (.int .i64 tv.line)).setCell ⟨ks,2,none⟩ (.int .i64 tv.ak)).heap[ks]? = some (.cells ((⟨true,⟨tv.line,tv.ak,[]⟩,⟨0,0,[]⟩,[],[]⟩:aS).cells (.slice none 0 0) (.slice none 0 0) (.slice none 0 0)) 33)from (bJ (bJ HC.o 1 (.int .i64 tv.line)) 2 (.int .i64 tv.ak)));have aU:=Qh (aA.new (aA.new HO.o ks cz 1 (.int .i64 tv.line)) ks cz 2 (.int .i64 tv.ak));have bw:=Qh (bD.set (bD.set HP.o dL 1 (.int .i64 tv.line)) dL 2 (.int .i64 tv.ak));go_upto_region 10 with fail
    clear c1 r1 c2 r2;replace HC:=bo;replace HO:=aU;replace HP:=bw;clear bo aU bw;generalize ((Y5.setCell ⟨ks,1,none⟩ (.int .i64 tv.line)).setCell ⟨ks,2,none⟩ (.int .i64 tv.ak))=Y7 at *;obtain⟨jx,hjx,asx,gS⟩:=HP.o;obtain rfl:j=jx:=ahU hj hjx asx;have HST:=Qh (gS.step gZ hj HK.o);obtain⟨vx,hcx⟩:=gS.cells;have f1:=hcx.cell 1 (.int .i64 (j:Nat)) rfl;have r1:=hcx.free 1;have bo:=Qh (dH HC.o (show ks≠kr by omega) 1 (.int .i64 ((j:Int)+1)));have aU:=Qh (HO.o.set 1 (.int .i64 ((j:Int)+1)));clear gS hcx;go_upto_region 11 with fail
    clear f1 r1;replace HC:=bo;replace HO:=aU;replace HP:=HST;clear bo aU HST HK;generalize Y7.setCell ⟨kr,1,none⟩ (.int .i64 ((j:Int)+1))=Y8 at *;generalize (T.drop j).tail=tl at *;have cc:=KE T gZ (aF.ok tl) kr _ HP.o;refine Ll (iA eL HR.o) ?_;intro u s9 cc HR
    go_wp2_with fail;refine Lc cc ?_;clear cc;intro Y10 HC HO HP;have c3:=ai.cell ⟨_,HC.o⟩ 3 (.string ⟨#[]⟩) rfl;have r3:=ai.free ⟨_,HC.o⟩ 3;have bo:=Qh (show(Y10.setCell ⟨ks,3,none⟩ (.string ⟨u.text.toArray⟩)).heap[ks]? = some (.cells ((⟨true,⟨tv.line,tv.ak,u.text⟩,⟨0,0,[]⟩,[],[]⟩:aS).cells (.slice none 0 0) (.slice none 0 0) (.slice none 0 0)) 33)from (bJ HC.o 3 (.string ⟨u.text.toArray⟩)));have aU:=Qh (aA.new HO.o ks cz 3 (.string ⟨u.text.toArray⟩));have bw:=Qh (bD.set HP.o dL 3 (.string ⟨u.text.toArray⟩));go_upto_region 12 with fail
    clear c3 r3;replace HC:=bo;replace HO:=aU;replace HP:=bw;clear bo aU bw;generalize (Y10.setCell ⟨ks,3,none⟩ (.string ⟨u.text.toArray⟩))=Y11 at *;have cc:=KH T gZ s9 kr _ HP.o;refine Ll (iA () HR.o) ?_;intro u2 s12 cc HR
    go_wp2_with fail;refine Lc cc ?_;clear cc;intro Y13 HC HO HP;have hv:=HR.o;rw[Ol.o]at hv;try dsimp only at hv
    replace HR:=Qh hv;clear hv Ol;go_wp2_with fail;go_meet
    case rel=>exact⟨true,tv.line,tv.ak,u.text,s12,rfl,HR.o,HC.o,HO.o,HP.o⟩
  case rest=>
  obtain⟨bv,vl,vc,vt,sV,rfl,hr,hc,ho,hp⟩:=hcut;refine xf ?_;intro Wr XM
  subst XM;replace HR:=Qh hr;replace HC:=Qh hc;replace HO:=Qh ho;replace HP:=Qh hp;clear hr hc ho hp Ol KV;obtain⟨i,no,l0,c0,hi,ud,sM⟩:=HP.o.head;have cn:=nw T bm hlen i no l0 c0 kr _ hi ud;unfold eG bZ at cn;have np:=Qh (Tm sV [66,85,95] i T sM);generalize rI T i=t0 at *;clear ud sM;go_wp2_with fail;refine aI cn ?_;refine Hq ?_;intro Tr hb HC HO HP;clear cn hb;have c4:=ai.cell ⟨_,HC.o⟩ 4 (.int .i64 0) rfl;have r4:=ai.free ⟨_,HC.o⟩ 4;have c5:=ai.cell ⟨_,HC.o⟩ 5 (.int .i64 0) rfl;have r5:=ai.free ⟨_,HC.o⟩ 5;have avS:∀ v,(Tr.setCell ⟨ks,4,none⟩ v).cell? ⟨ks,5,none⟩=some (.int .i64 0):=fun v=>ai.cell ⟨_,bJ HC.o 4 v⟩ 5 _ rfl
  have avT:∀ v,(Tr.setCell ⟨ks,4,none⟩ v).frozen? ⟨ks,5,none⟩=false:=fun v=>ai.free ⟨_,bJ HC.o 4 v⟩ 5
  have bo:=Qh (show((Tr.setCell ⟨ks,4,none⟩ (.int .i64 t0.line)).setCell ⟨ks,5,none⟩ (.int .i64 t0.ak)).heap[ks]? = some (.cells ((⟨bv,⟨vl,vc,vt⟩,⟨t0.line,t0.ak,[]⟩,[],[]⟩:aS).cells (.slice none 0 0) (.slice none 0 0) (.slice none 0 0)) 33)from (bJ (bJ HC.o 4 (.int .i64 t0.line)) 5 (.int .i64 t0.ak)));have aU:=Qh (aA.new (aA.new HO.o ks cz 4 (.int .i64 t0.line)) ks cz 5 (.int .i64 t0.ak));have bw:=Qh (bD.set (bD.set HP.o dL 4 (.int .i64 t0.line)) dL 5 (.int .i64 t0.ak));go_upto_region 14 with fail
  clear c4 r4 c5 r5;replace HC:=bo;replace HO:=aU;replace HP:=bw;clear bo aU bw;generalize ((Tr.setCell ⟨ks,4,none⟩ (.int .i64 t0.line)).setCell ⟨ks,5,none⟩ (.int .i64 t0.ak))=Y15 at *;have cc:=pI 1 [66,85,95] ⟨_,_,rfl,.inl ⟨rfl,ah⟩⟩ T gZ sV kr _ HP.o;have AZ:=np.o;obtain⟨t,s16,hx,hs,hr⟩:=iA eL HR.o;rw[← hs,← hx]at AZ;replace np:=Qh AZ;have yR:=Qh (fun (h:R.2.isOk)=>abx (by rw[hr]at h;exact h));clear AZ;rw[← hs]at cc;try rw[← hx]at cc
  replace HR:=Qh hr;clear hr hx hs;go_wp2_with fail;refine Lc cc ?_;clear cc;intro Y17 HC HO HP;have cc:=pI 4 [58] ⟨_,[],rfl,.inr ⟨rfl,ah⟩⟩ T gZ s16 kr _ HP.o;refine Ll (iA eL HR.o) ?_;intro k1 Hg cc HR
  go_wp2_with fail;refine Lc cc ?_;clear cc;intro Y19 HC HO HP;obtain⟨KF,gu,jb⟩:∃ KF:List (List UInt8)→List aw→PR aS,R=Hg.run iW (fun ts=>(jr ts.length [] ts).bind KF)∧KF=fun ns ts=>(dQ ts).bind fun _ ts=>(jl ts.length [] ts).bind fun ms ts=>(jC ts.length [] ts).bind fun tb ts=>uQ ⟨bv,⟨vl,vc,vt⟩,⟨t.line,t.ak,ns⟩,ms,tb⟩ ts:=⟨_,HR.o,rfl⟩
  have jh:=Qh jb;replace HR:=Qh gu;clear gu jb;obtain⟨fu1,qO,qP⟩:∃ fu:Nat,(∀ ts,Hg=.ok ts→ts.length≤fu∧0+ts.length≤T.length)∧R=Hg.run iW (fun ts=>(jr fu [] ts).bind KF):=by
   have Un:=HP.o;cases Hg with
   | bad a b c=>exact⟨0,(fun ts e=>sW),HR.o⟩
   | ok ts=>
    exact Um
  have ue:=Qh qO;have uf:=Qh qP;clear qO qP;go_wp2_with fail;go_loopw [10] (fun kv wr=>∃ (k fu:Nat) (l:List (List UInt8)) (v:Value) (s1:aF),kv=.int .i64 (k:Nat)∧k < T.length∧l.length≤k∧(∀ ts,s1=.ok ts→ts.length≤fu∧k+ts.length≤T.length)∧R=s1.run iW (fun ts=>(jr fu l ts).bind KF)∧bD wr kr T s1∧aA kr w wr∧wr.heap[ks]? = some (.cells ((⟨bv,⟨vl,vc,vt⟩,⟨t0.line,t0.ak,[]⟩,[],[]⟩:aS).cells (v) (.slice none 0 0) (.slice none 0 0)) 33)∧aG wr w.heap.size 9 1 dr v l) (fun kv _=>T.length - (intOf kv).toNat)
  case atStart=>exact⟨0,fu1,[],_,Hg,rfl,bm,aB,ue.o,uf.o,HP.o,HO.o,HC.o,aG.nil _ _ _ _ _⟩
  case round=>
   clear HO HP HC HR ue uf;obtain⟨k,fu,ns,v1,q1,rfl,Om,hlk,hf,hr1,fL,ho1,hc1,hown⟩:=hrel;refine aY ho1 fL hf ?_;intro HO HP gP;refine aY hr1 hc1 hown ?_;intro dY HC HN;have fk:∀ ts,q1=.ok ts→1≤ts.length:=fun ts e=>by
    exact UJ
   obtain⟨AL,AM,rfl,-⟩:=HN.o.shape;clear fL ho1 hf hr1 hc1 hown;have pZ:(k:Int) < T.length:=ae;have cs:=ahD T gZ q1 kr _ HP.o;cases hS:q1.named with
   | true=>
    cases q1 with
    | bad a b c=>cases hS
    | ok ts=>
     have ia:=HP.o;obtain⟨j,hj,rfl,gS⟩:=ia;rw[hS]at cs;obtain⟨jk,hf2⟩:=gP.o _ rfl;have gA:=fk _ rfl;obtain⟨g,rfl⟩:∃ g,fu=g+1:=⟨fu - 1,ae⟩
     have lh:=gZ.b.drop hj;have JL:=aaa lh (adY hS);have HV:=Qh (show R=((aF.ok (T.drop j)).run [] ee).2.run iW (fun ts=>(jr g (ns++[((aF.ok (T.drop j)).run [] ee).1]) ts).bind KF)by rw[dY.o];exact arQ iW KF hS);clear hS fk gS;go_wp2_with fail;refine aI cs ?_;refine Hq ?_;intro CH hb HC HO HP;replace HN:=Qh (HN.o.keep hb af);clear cs hb;go_upto_region 19 with fail
     have pP:=Qh (HO.o.trans (aA.of_below kr (aC CH.heap.size CH).drew));have tY:=Qh (HP.o.keep (aC CH.heap.size CH).drew);have cn:=Hf T gZ (.ok (T.drop j)) kr CH.drew tY.o;obtain⟨vh,hx⟩:∃ x,x=((aF.ok (T.drop j)).run [] ee).1:=⟨_,rfl⟩
     obtain⟨Ob,hs⟩:∃ s,s=((aF.ok (T.drop j)).run [] ee).2:=⟨_,rfl⟩
     have sU:=Qh (show ∀ ts,Ob=.ok ts→ts.length < (T.drop j).length by
      intro ts e;rw[hs]at e;obtain⟨xx,h2⟩:=EH e;exact(tX _ _ _ h2 lh).2)
     have hv:=HV.o;rw[← hx,← hs]at hv cn;replace HV:=Qh hv;clear hx hs hv;have c6:=ai.cell ⟨_,HC.o⟩ 6 (.slice AL ns.length AM) rfl;refine wX 9 (fun (w':World)=>w'.cell? ⟨ks,6,none⟩=some (.slice AL ns.length AM)) aj c6 (fun hHeld=>?_);refine hL 0 ?_;refine aL ?_
     refine hL 1 ?_;refine aL ?_
     refine hL 2 ?_;refine aL ?_
     refine hL 3 ?_;refine zh ?_;intro K hK
     go_simp;refine dF cn ?_;intro Z1 ho hp;have qM:=Qh (eJ (W:=CH.drew) HC.o ae ho);refine fQ (pP.o.trans ho) hp (aG.only (W:=CH.drew) (HN.o.keep (aC CH.heap.size CH).drew af) dG ho) (ai.cell ⟨_,qM.o⟩ 6 (.slice AL ns.length AM) rfl) ?_;intro wK yK yL c6b;have hb5:Below Z1.heap.size Z1 (Z1.alloc (.cells #[.string ⟨vh.toArray⟩] 9)):=(aC _ _).alloc af _;clear cn ho hp;clear hHeld;refine hK.o _ _ ?_ (fun hHeld=>?_)
     ·exact c6b
     clear hK K;refine CU ?_;intro K hK
     go_simp;clear hHeld;refine hK.o _ _ ?_ (fun hHeld=>?_)
     ·exact dx c6b hb5
     clear hK K;refine aL ?_
     refine CT 6 rfl aj (fun K hK=>?_);have tW:=Qh (bF qM.o hb5);refine fQ (wK.o.trans (aA.of_below kr hb5)) (yK.o.keep hb5) (yL.o.keep hb5 af) (dK Z1 (.cells #[.string ⟨vh.toArray⟩] 9)) ?_;intro pE vd lV oO;have oP:w.heap.size≤(Z1.alloc (.cells #[.string ⟨vh.toArray⟩] 9)).heap.size:=pE.o.size;clear hb5;generalize Z1.alloc (.cells #[.string ⟨vh.toArray⟩] 9)=Z2 at *;refine FH (en:=dr) xJ ns vh (g:=Z1.heap.size) lV.o (aC w.heap.size Z2) oP ae oO ?_ (hone:=Bd);refine AU ?_;intro v5 w5 fP bR fD a5 n5 c5 mG
     subst mG;refine aY (jQ tW.o lV.o ah fD) (aA.low pE.o bR) (bD.low vd.o dG bR) ?_;intro fF iV pF;have kP:=ai.cell ⟨_,fF.o⟩ 6 (.slice AL ns.length AM) rfl;have qH:=ai.free ⟨_,fF.o⟩ 6;clear bR fD oO oP;clear hHeld;refine hK.o _ _ ?_ (fun hHeld=>?_)
     ·exact kP
     clear hK K;refine aL ?_
     refine al8 7 8 (v:=?_) rfl aj aj aj aj aj aj aj aj (fun _ _ _ h=>h) ot ?_ ?_;rotate_left
     ·first|(refine Or.inr ⟨?_,?_⟩<;>rfl)|(refine Or.inl ⟨by rfl,?_⟩;intro w hSw;(try dsimp only at hSw);first|(go_simp;done)|(go_simp;with_reducible rfl))
     refine aL ?_
     refine hL 8 ?_;refine aL ?_
     refine Ui 9 rfl aj aj (fun K hK=>?_);go_simp;refine hK.o _ _ ?_;clear hK K;refine H5 ?_
     refine aY (bJ fF.o 6 (.slice a5 n5 c5)) (aA.new iV.o ks cz 6 (.slice a5 n5 c5)) (bD.set pF.o dL 6 (.slice a5 n5 c5)) ?_;intro eU gJ jE;have sJ:=Qh (fP.dn ah fF.o (fun b _ hne=>dN _ ⟨ks,6,none⟩ (.slice a5 n5 c5) b hne));clear fP kP qH c6 c6b;go_wp2_with fail;go_roundw;case rel=>exact⟨k+1,g,ns++[vh],_,Ob,bL,ae,sT,(fun ts e=>Ic),HV.o,jE.o,gJ.o,eU.o,sJ.o⟩
     case measure=>exact bY
   | false=>
    have hv:=dY.o;rw[arP iW KF (fun ts e=>bQ (fk ts e) (gP.o ts e).1) hS,jh.o]at hv;try dsimp only at hv
    replace HR:=Qh hv;have avU:ns.length≤4000000:=ae;rw[hS]at cs;clear hS hv fk dY gP jh;go_wp2_with fail;refine aI cs ?_;refine Hq ?_;intro Y21 hb HC HO HP;replace HN:=Qh (HN.o.keep hb af);clear cs hb hlk pZ Om;have cc:=KH T gZ q1 kr _ HP.o;refine Ll (iA () HR.o) ?_;intro u1 On cc HR
    go_wp2_with fail;refine dF cc ?_;intro Y23 ho hp;replace HC:=Qh (eJ HC.o ae ho);replace HN:=Qh (aG.only HN.o dG ho);replace HO:=Qh (HO.o.trans ho);replace HP:=Qh hp;clear cc ho hp;obtain⟨KF,gu,jb⟩:∃ KF:List bj→List aw→PR aS,R=On.run iW (fun ts=>(jl ts.length [] ts).bind KF)∧KF=fun ms ts=>(jC ts.length [] ts).bind fun tb ts=>uQ ⟨bv,⟨vl,vc,vt⟩,⟨t.line,t.ak,ns⟩,ms,tb⟩ ts:=⟨_,HR.o,rfl⟩
    have jh:=Qh jb;replace HR:=Qh gu;clear gu jb;obtain⟨fu2,qO,qP⟩:∃ fu:Nat,(∀ ts,On=.ok ts→ts.length≤fu∧0+ts.length≤T.length)∧R=On.run iW (fun ts=>(jl fu [] ts).bind KF):=by
     have Un:=HP.o;cases On with
     | bad a b c=>exact⟨0,(fun ts e=>sW),HR.o⟩
     | ok ts=>
      exact Um
    have ue:=Qh qO;have uf:=Qh qP;clear qO qP;go_wp2_with fail;go_loopw [11] (fun kv wr=>∃ (k fu:Nat) (l:List bj) (v:Value) (s1:aF),kv=.int .i64 (k:Nat)∧k < T.length∧l.length≤k∧(∀ ts,s1=.ok ts→ts.length≤fu∧k+ts.length≤T.length)∧R=s1.run iW (fun ts=>(jl fu l ts).bind KF)∧bD wr kr T s1∧aA kr w wr∧wr.heap[ks]? = some (.cells ((⟨bv,⟨vl,vc,vt⟩,⟨t0.line,t0.ak,[]⟩,[],[]⟩:aS).cells (.slice AL ns.length AM) (v) (.slice none 0 0)) 33)∧aG wr w.heap.size 9 1 dr (.slice AL ns.length AM) ns∧aZ wr w.heap.size 39 (jK w.heap.size) 8 v l) (fun kv _=>T.length - (intOf kv).toNat)
    case atStart=>exact⟨0,fu2,[],_,On,rfl,bm,aB,ue.o,uf.o,HP.o,HO.o,HC.o,HN.o,aZ.nil _ _ _ _ _⟩
    case round=>
     clear HO HP HC HN HR ue uf;obtain⟨k,fu,ms,v2,q2,rfl,Om,hlk,hf,hr1,fL,ho1,hc1,gA,hown⟩:=hrel;refine aY ho1 fL hf ?_;intro HO HP gP;refine lC hr1 hc1 gA hown ?_;intro dY HC HN HM;have fk:∀ ts,q2=.ok ts→1≤ts.length:=fun ts e=>by
      exact UJ
     obtain⟨CJ,CL,rfl,-⟩:=HM.o.shape;clear fL ho1 hf hr1 hc1 gA hown;have pZ:(k:Int) < T.length:=ae;have cs:=EJ 1 [66,79,95] T gZ q2 kr _ HP.o;cases hS:q2.sees 1 [66,79,95]with
     | true=>
      cases q2 with
      | bad a b c=>cases hS
      | ok ts=>
       have ia:=HP.o;obtain⟨j,hj,rfl,gS⟩:=ia;rw[hS]at cs;rw[sL gZ hj (k:=1) ⟨66,[79,95],rfl,.inl ⟨rfl,ah⟩⟩]at hS;obtain⟨jk,hf2⟩:=gP.o _ rfl;have gA:=fk _ rfl;obtain⟨g,rfl⟩:∃ g,fu=g+1:=⟨fu - 1,ae⟩
       have yQ:=Qh hS;have lh:=gZ.b.drop hj;have JL:=aaa lh (mY hS);clear hS fk gS;go_wp2_with fail;refine Hw cs ?_;intro Y24 hb HC HO HP HN HM;have c7:=ai.cell ⟨_,HC.o⟩ 7 (.slice CJ ms.length CL) rfl;clear cs hb;by_cases EB:ms.length=512
       ·have cw:=Hc 5 ah T gZ (.ok (T.drop j)) kr _ HP.o;have hm:=arU (f:=g) iW KF yQ.o EB;have HV:=Qh (show R=(iW,(aF.ok (T.drop j)).ko 5)by rw[dY.o];exact hm);have asy:((ms.length:Int) == 512)=true:=(by rw[EB];rfl);have asn:ms.length≤1000:=ae;clear EB hm;go_wp2_with fail;refine aI cw ?_;refine KX ?_;intro Y25 ho hp HC HN HM;replace HO:=Qh (HO.o.trans ho);replace HP:=Qh hp;clear cw ho hp c7;have cg:=ahP T gZ ((aF.ok (T.drop j)).ko 5) kr _ HP.o;rw[show(((aF.ok (T.drop j)).ko 5).run lB my)=(lB,(aF.ok (T.drop j)).ko 5)from rfl]at cg;unfold aah at cg;go_wp2_with fail;refine aI cg ?_;clear cg;refine aaW ?_;intro Z4 x C6 gX jB p7 CE jm HC HO HP HN HM wN;go_upto_region 27 with (refine eX (Z:=fE) (cs:=C6) 39 (.tmp 12) (.tmp 99) (by rw[gX];exact DT) (by rw[gX];rfl) jB ?_)
        generalize Z4.alloc (.cells C6 39)=Z5 at *;generalize Z4.heap.size=k5 at *;have c75:=ai.cell ⟨_,HC.o⟩ 7 (.slice CJ ms.length CL) rfl;have yT:=underlying39;have hs5:w.heap.size≤Z5.heap.size:=HO.o.size;go_wp2_with (first|(refine fG jm 39 (.tmp 12) yT (by rw[gX];exact ql) ?_)|(at_builtin;go_loud (refine xW (qQ _) QS ms x HM.o (aC w.heap.size Z5) hs5 ae wN.o gX jB (lu _ ah ah) ?_)))
        rintro v6 Z6 kA bR gL;refine AV ?_;intro a6 n6 c6 qy
        subst qy;obtain⟨Tp,qI,-⟩:=HM.o;replace HC:=Qh (jQ HC.o qI ah gL);replace HN:=Qh (HN.o.nH qI ah gL);replace HO:=Qh (aA.low HO.o bR);replace HP:=Qh (bD.low HP.o dG bR);replace HM:=Qh kA;clear kA bR gL qI jm wN c75 p7;have GZ:=ai.cell ⟨_,HC.o⟩ 7 (.slice CJ ms.length CL) rfl;have r7b:=ai.free ⟨_,HC.o⟩ 7;go_upto_region 28 with fail
        clear GZ r7b;refine acm (HN.o.dn ah HC.o (fun b _ hne=>dN _ ⟨ks,7,none⟩ (.slice a6 n6 c6) b hne)) ?_;intro HN HM;replace HC:=Qh (bJ HC.o 7 (.slice a6 n6 c6));replace HO:=Qh (aA.new HO.o ks cz 7 (.slice a6 n6 c6));replace HP:=Qh (bD.set HP.o dL 7 (.slice a6 n6 c6));generalize Z6.setCell ⟨ks,7,none⟩ (.slice a6 n6 c6)=Z7 at *;have cM:=KH T gZ ((aF.ok (T.drop j)).ko 5) kr _ HP.o;obtain⟨qc,wO⟩:∃ x,x=(((aF.ok (T.drop j)).ko 5).run () dQ).2:=⟨_,rfl⟩
        rw[← wO]at cM;obtain rfl:qc=(aF.ok (T.drop j)).ko 5:=wO;go_wp2_with fail;refine aI cM ?_;refine KX ?_;intro Z9 ho hp HC HN HM;replace HO:=Qh (HO.o.trans ho);replace HP:=Qh hp;clear cM ho hp;go_wp2_with fail;go_roundw;case rel=>exact⟨k+1,g,ms++[x],_,(aF.ok (T.drop j)).ko 5,bL,ae,sT,(fun ts e=>sW),HV.o,HP.o,HO.o,HC.o,HN.o,HM.o⟩
        case measure=>exact bY
       ·have asy:((ms.length:Int) == 512)=false:=bN ae;have cg:=ahP T gZ (.ok (T.drop j)) kr _ HP.o;have sN:=Qh (fun x hx=>arV (f:=g) iW KF yQ.o EB x hx);have sU:=Qh (show ∀ ts,(((aF.ok (T.drop j)).run lB my).2.run () dQ).2=.ok ts→ts.length < (T.drop j).length from fun ts e=>ahx Zr lh e);obtain⟨q,hq⟩:∃ q,q=(aF.ok (T.drop j)).run lB my:=⟨_,rfl⟩
        have hgo:=sN.o;have hsm:=sU.o;rw[← hq]at cg hgo hsm;replace sN:=Qh hgo;replace sU:=Qh hsm;unfold aah at cg;clear hq hgo hsm;go_wp2_with fail;refine aI cg ?_;clear cg;refine aaW ?_;intro Z4 x C6 gX jB p7 CE jm HC HO HP HN HM wN;go_upto_region 27 with (refine eX (Z:=fE) (cs:=C6) 39 (.tmp 12) (.tmp 99) (by rw[gX];exact DT) (by rw[gX];rfl) jB ?_)
        generalize Z4.alloc (.cells C6 39)=Z5 at *;generalize Z4.heap.size=k5 at *;have c75:=ai.cell ⟨_,HC.o⟩ 7 (.slice CJ ms.length CL) rfl;have yT:=underlying39;have hs5:w.heap.size≤Z5.heap.size:=HO.o.size;go_wp2_with (first|(refine fG jm 39 (.tmp 12) yT (by rw[gX];exact ql) ?_)|(at_builtin;go_loud (refine xW (qQ _) QS ms x HM.o (aC w.heap.size Z5) hs5 ae wN.o gX jB (lu _ ah ah) ?_)))
        rintro v6 Z6 kA bR gL;refine AV ?_;intro a6 n6 c6 qy
        subst qy;obtain⟨Tp,qI,-⟩:=HM.o;replace HC:=Qh (jQ HC.o qI ah gL);replace HN:=Qh (HN.o.nH qI ah gL);replace HO:=Qh (aA.low HO.o bR);replace HP:=Qh (bD.low HP.o dG bR);replace HM:=Qh kA;clear kA bR gL qI jm wN c75 p7;have GZ:=ai.cell ⟨_,HC.o⟩ 7 (.slice CJ ms.length CL) rfl;have r7b:=ai.free ⟨_,HC.o⟩ 7;go_upto_region 28 with fail
        clear GZ r7b;refine acm (HN.o.dn ah HC.o (fun b _ hne=>dN _ ⟨ks,7,none⟩ (.slice a6 n6 c6) b hne)) ?_;intro HN HM;replace HC:=Qh (bJ HC.o 7 (.slice a6 n6 c6));replace HO:=Qh (aA.new HO.o ks cz 7 (.slice a6 n6 c6));replace HP:=Qh (bD.set HP.o dL 7 (.slice a6 n6 c6));generalize Z6.setCell ⟨ks,7,none⟩ (.slice a6 n6 c6)=Z7 at *;have cM:=KH T gZ q.2 kr _ HP.o;obtain⟨qc,wO⟩:∃ x,x=(q.2.run () dQ).2:=⟨_,rfl⟩
        rw[← wO]at cM;have HV:=Qh (show R=qc.run iW (fun tz=>(jl g (ms++[x]) tz).bind KF)by rw[dY.o,wO];exact sN.o x CE.o);replace sU:=Qh (show ∀ ts,qc=.ok ts→ts.length < (T.drop j).length by rw[wO];exact sU.o);clear wO;go_wp2_with fail;refine aI cM ?_;refine KX ?_;intro Z9 ho hp HC HN HM;replace HO:=Qh (HO.o.trans ho);replace HP:=Qh hp;clear cM ho hp;go_wp2_with fail;go_roundw;case rel=>exact⟨k+1,g,ms++[x],_,qc,bL,ae,sT,(fun ts e=>Ic),HV.o,HP.o,HO.o,HC.o,HN.o,HM.o⟩
        case measure=>exact bY
     | false=>
      have hst:∀ ts,q2=.ok ts→dt [66,79,95] ts=false:=fun ts e=>by
       subst e;obtain⟨j,hj,rfl,-⟩:=HP.o;rw[← sL gZ hj (k:=1) ⟨66,[79,95],rfl,.inl ⟨rfl,ah⟩⟩];exact hS
      have hv:=dY.o;rw[arT iW KF (fun ts e=>bQ (fk ts e) (gP.o ts e).1) hst,jh.o]at hv;try dsimp only at hv
      replace HR:=Qh hv;have avV:ms.length≤4000000:=ae;rw[hS]at cs;clear hS hst hv fk dY gP jh;go_wp2_with fail;refine Hw cs ?_;intro Y26 hb HC HO HP HN HM;clear cs hb hlk pZ Om;obtain⟨KF,gu,jb⟩:∃ KF:List bK→List aw→PR aS,R=q2.run iW (fun ts=>(jC ts.length [] ts).bind KF)∧KF=fun tb ts=>uQ ⟨bv,⟨vl,vc,vt⟩,⟨t.line,t.ak,ns⟩,ms,tb⟩ ts:=⟨_,HR.o,rfl⟩
      have jh:=Qh jb;replace HR:=Qh gu;clear gu jb;obtain⟨fu3,qO,qP⟩:∃ fu:Nat,(∀ ts,q2=.ok ts→ts.length≤fu∧0+ts.length≤T.length)∧R=q2.run iW (fun ts=>(jC fu [] ts).bind KF):=by
       have Un:=HP.o;cases q2 with
       | bad a b c=>exact⟨0,(fun ts e=>sW),HR.o⟩
       | ok ts=>
        exact Um
      have ue:=Qh qO;have uf:=Qh qP;clear qO qP;go_wp2_with fail;go_loopw [13] (fun kv wr=>∃ (k fu:Nat) (l:List bK) (v:Value) (s1:aF),kv=.int .i64 (k:Nat)∧k < T.length∧l.length≤k∧(∀ ts,s1=.ok ts→ts.length≤fu∧k+ts.length≤T.length)∧R=s1.run iW (fun ts=>(jC fu l ts).bind KF)∧bD wr kr T s1∧aA kr w wr∧wr.heap[ks]? = some (.cells ((⟨bv,⟨vl,vc,vt⟩,⟨t0.line,t0.ak,[]⟩,[],[]⟩:aS).cells (.slice AL ns.length AM) (.slice CJ ms.length CL) (v)) 33)∧aG wr w.heap.size 9 1 dr (.slice AL ns.length AM) ns∧aZ wr w.heap.size 39 (jK w.heap.size) 8 (.slice CJ ms.length CL) ms∧aZ wr w.heap.size 43 (nN w.heap.size) 6 v l) (fun kv _=>T.length - (intOf kv).toNat)
      case atStart=>exact⟨0,fu3,[],_,q2,rfl,bm,aB,ue.o,uf.o,HP.o,HO.o,HC.o,HN.o,HM.o,aZ.nil _ _ _ _ _⟩
      case round=>
       clear HO HP HC HN HM HR ue uf;obtain⟨k,fu,tb,v3,q3,rfl,Om,hlk,hf,hr1,fL,ho1,hc1,gA,hm1,hown⟩:=hrel;refine aY ho1 fL hf ?_;intro HO HP gP;refine lC hr1 hc1 gA hm1 ?_;intro dY HC HN HM;have HT:=Qh hown;have fk:∀ ts,q3=.ok ts→1≤ts.length:=fun ts e=>by
        exact UJ
       obtain⟨Ts,Tt,rfl,-⟩:=HT.o.shape;clear fL ho1 hf hr1 hc1 gA hm1 hown;have pZ:(k:Int) < T.length:=ae;have cs:=EJ 1 [86,65,76,95] T gZ q3 kr _ HP.o;cases hS:q3.sees 1 [86,65,76,95]with
       | true=>
        cases q3 with
        | bad a b c=>cases hS
        | ok ts=>
         have ia:=HP.o;obtain⟨j,hj,rfl,gS⟩:=ia;rw[hS]at cs;rw[sL gZ hj (k:=1) ⟨86,[65,76,95],rfl,.inl ⟨rfl,ah⟩⟩]at hS;obtain⟨jk,hf2⟩:=gP.o _ rfl;have gA:=fk _ rfl;obtain⟨g,rfl⟩:∃ g,fu=g+1:=⟨fu - 1,ae⟩
         have yQ:=Qh hS;have lh:=gZ.b.drop hj;have JL:=aaa lh (mY hS);clear hS fk gS;go_wp2_with fail;refine Hw cs ?_;intro Y27 hb HC HO HP HN HM;replace HT:=Qh (HT.o.keep (sf _) hb);clear cs hb;have cg:=asr T gZ (.ok (T.drop j)) kr _ HP.o;have sN:=Qh (fun x hx=>arX (f:=g) (l:=tb) iW KF yQ.o x hx);have sU:=Qh (show ∀ ts,(((aF.ok (T.drop j)).run kV mC).2.run () dQ).2=.ok ts→ts.length < (T.drop j).length from fun ts e=>ahx ag1 lh e);obtain⟨q,hq⟩:∃ q,q=(aF.ok (T.drop j)).run kV mC:=⟨_,rfl⟩
         have hgo:=sN.o;have hsm:=sU.o;rw[← hq]at cg hgo hsm;replace sN:=Qh hgo;replace sU:=Qh hsm;unfold ahS at cg;clear hq hgo hsm;go_wp2_with fail;refine aI cg ?_;rintro e Z4 ⟨x,C6,rfl,dP,ho,hp,yS⟩;obtain⟨gX,jB⟩:=asu dP;have p7:=ze iD C6 6 gX rfl;have wZ:=Qh (ahT dP HO.o.size);replace HC:=Qh (eJ HC.o ae ho);replace HN:=Qh (aG.only HN.o dG ho);replace HM:=Qh (aZ.Hs HM.o HP.o ho ah (lu _ ah ah));replace HT:=Qh (aZ.Hs HT.o HP.o ho ah (mQ _ ah));replace HO:=Qh (HO.o.trans ho);replace HP:=Qh hp;have CE:=Qh yS;clear cg ho hp dP yS;have hb5:Below Z4.heap.size Z4 (Z4.alloc (.cells C6 43)):=(aC _ _).alloc af _;have jm:=ai.new Z4 C6 43;replace HC:=Qh (bF HC.o hb5);replace HO:=Qh (HO.o.trans (aA.of_below kr hb5));replace HP:=Qh (HP.o.keep hb5);replace HN:=Qh (HN.o.keep hb5 af);replace HM:=Qh (HM.o.keep (qQ _) hb5);replace HT:=Qh (HT.o.keep (sf _) hb5);have wN:=Qh (sf _ _ _ _ _ wZ.o hb5);clear hb5 wZ;go_upto_region 33 with (refine eX (Z:=iD) (cs:=C6) 43 (.tmp 14) (.tmp 119) (by rw[gX];exact FW) (by rw[gX];rfl) jB ?_)
         generalize Z4.alloc (.cells C6 43)=Z5 at *;generalize Z4.heap.size=k5 at *;have c85:=ai.cell ⟨_,HC.o⟩ 8 (.slice Ts tb.length Tt) rfl;have yT:=underlying43;have hs5:w.heap.size≤Z5.heap.size:=HO.o.size;go_wp2_with (first|(refine fG jm 43 (.tmp 14) yT (by rw[gX];exact rM) ?_)|(at_builtin;go_loud (refine xW (sf _) VW tb x HT.o (aC w.heap.size Z5) hs5 ae wN.o gX jB (mQ _ ah) ?_)))
         rintro v6 Z6 kA bR gL;refine AV ?_;intro a6 n6 c6 qy
         subst qy;obtain⟨Tp,qI,-⟩:=HT.o;replace HC:=Qh (jQ HC.o qI ah gL);replace HN:=Qh (HN.o.nH qI ah gL);replace HM:=Qh (HM.o.nH qI ah (qQ _) (lu _ ah ah) gL);replace HO:=Qh (aA.low HO.o bR);replace HP:=Qh (bD.low HP.o dG bR);replace HT:=Qh kA;clear kA bR gL qI jm wN c85 p7;have c8b:=ai.cell ⟨_,HC.o⟩ 8 (.slice Ts tb.length Tt) rfl;have r8b:=ai.free ⟨_,HC.o⟩ 8;go_upto_region 34 with fail
         clear c8b r8b;replace HN:=Qh (HN.o.dn ah HC.o (fun b _ hne=>dN _ ⟨ks,8,none⟩ (.slice a6 n6 c6) b hne));replace HM:=Qh (HM.o.dn ah (lu _ ah ah) HC.o pR (fun b _ hne=>dN _ ⟨ks,8,none⟩ (.slice a6 n6 c6) b hne));replace HT:=Qh (HT.o.dn ah (mQ _ ah) HC.o pR (fun b _ hne=>dN _ ⟨ks,8,none⟩ (.slice a6 n6 c6) b hne));replace HC:=Qh (bJ HC.o 8 (.slice a6 n6 c6));replace HO:=Qh (aA.new HO.o ks cz 8 (.slice a6 n6 c6));replace HP:=Qh (bD.set HP.o dL 8 (.slice a6 n6 c6));generalize Z6.setCell ⟨ks,8,none⟩ (.slice a6 n6 c6)=Z7 at *;have cM:=KH T gZ q.2 kr _ HP.o;obtain⟨qc,wO⟩:∃ x,x=(q.2.run () dQ).2:=⟨_,rfl⟩
         rw[← wO]at cM;have HV:=Qh (show R=qc.run iW (fun tz=>(jC g (tb++[x]) tz).bind KF)by rw[dY.o,wO];exact sN.o x CE.o);replace sU:=Qh (show ∀ ts,qc=.ok ts→ts.length < (T.drop j).length by rw[wO];exact sU.o);clear wO;go_wp2_with fail;refine aI cM ?_;refine KX ?_;intro Z9 ho hp HC HN HM;replace HT:=Qh (aZ.Hs HT.o HP.o ho ah (mQ _ ah));replace HO:=Qh (HO.o.trans ho);replace HP:=Qh hp;clear cM ho hp;go_wp2_with fail;go_roundw;case rel=>exact⟨k+1,g,tb++[x],_,qc,bL,ae,sT,(fun ts e=>Ic),HV.o,HP.o,HO.o,HC.o,HN.o,HM.o,HT.o⟩
         case measure=>exact bY
       | false=>
        have hst:∀ ts,q3=.ok ts→dt [86,65,76,95] ts=false:=fun ts e=>by
         subst e;obtain⟨j,hj,rfl,-⟩:=HP.o;rw[← sL gZ hj (k:=1) ⟨86,[65,76,95],rfl,.inl ⟨rfl,ah⟩⟩];exact hS
        have hv:=dY.o;rw[arW iW KF (fun ts e=>bQ (fk ts e) (gP.o ts e).1) hst,jh.o]at hv;try dsimp only at hv
        replace HR:=Qh hv;have avW:tb.length≤4000000:=ae;rw[hS]at cs;clear hS hst hv fk dY gP jh;go_wp2_with fail;refine Hw cs ?_;intro yU hb HC HO HP HN HM;replace HT:=Qh (HT.o.keep (sf _) hb);clear cs hb hlk pZ Om;cases q3 with
        | bad a b c=>
         have HV:=HR;have dv:=Qh (show(aF.ok T).run iW mq=(iW,.bad a b c)by rw[← aam.o,HV.o];try rfl);obtain⟨h0,jj,zW,Oo⟩:=HP.o;obtain⟨vj,oT⟩:=Oo.cells;have f2:=oT.cell 2 (.int .i64 (a)) rfl;have f3:=oT.cell 3 (.int .i64 (b)) rfl;have f4:=oT.cell 4 (.int .i64 (c)) rfl;have e0:=bN h0;have HCJ:=Qh oT;have b2:ai yU wo.heap.size bf:=⟨_,eJ bC.o ae HO.o⟩
         have b4:ai yU (wo.heap.size+1) #[.int .i64 0,.int .i64 0]:=⟨_,eJ pM.o ae HO.o⟩
         have EL:ai yU.drew wo.heap.size bf:=b2.keep (aC yU.heap.size yU).drew af;have y9:ai (yU.drew.setRow wo.heap.size bf) (wo.heap.size+1) #[.int .i64 0,.int .i64 0]:=(b4.keep (aC yU.heap.size yU).drew af).A9 ae _;obtain⟨r0,r1,q0,q1⟩:=y9.two;have bE:=Qh (aA.below HB.o HO.o af (show wo.heap.size≤kr by omega));clear Oo oT b2 b4 h0;go_wp2_with fail;have za:ai (yU.drew.setRow wo.heap.size bf) kr #[vj,.int .i64 (jj:Nat),.int .i64 (a),.int .i64 (b),.int .i64 (c)]:=(HCJ.o.keep (aC yU.heap.size yU).drew af).A9 ae _;refine abA ?_;intro hHeld;refine hT 0 ?_;refine aL ?_
         refine hT 1 ?_;refine aL ?_
         refine hT 2 ?_;refine aL ?_
         refine hT 3 ?_;refine aL ?_
         refine hT 4 ?_;refine aL ?_
         refine hT 5 ?_;refine aL ?_
         refine hT 6 ?_;refine aL ?_
         refine hT 7 ?_;refine aL ?_
         refine hT 8 ?_;refine E4 ?_;intro K hK
         refine aaj (cs:=bf) EL 33 (.tmp 2) (.tmp 146) jw rfl uz ?_;clear hHeld;refine hK.o _ _ ?_ (fun hHeld=>?_)
         ·exact⟨za.cell 2 _ rfl,za.cell 3 _ rfl,za.cell 4 _ rfl⟩
         clear hK K;refine aL ?_
         refine hT 10 ?_;refine aL ?_
         refine jS 11 rfl aj (fun K hK=>?_);go_simp;clear hHeld;refine hK.o _ _ ?_ (fun hHeld=>?_)
         ·exact aaU
         clear hK K;refine aL ?_
         exact aaT (((EL.row bf).other (a:=⟨wo.heap.size+1,0,none⟩) Db (.int .i64 (b))).other (a:=⟨wo.heap.size+1,1,none⟩) Db (.int .i64 (c)))
        | ok ts=>
         have ia:=HP.o;obtain⟨j,hj,rfl,gS⟩:=ia;refine wV gS.cells ?_;intro vj oT f2;have cs:=nw T bm hlen j 0 0 0 kr _ (gV hj) gS;rw[pQ hj]at cs;unfold eG bZ at cs;clear gS oT;by_cases hk0:(ax (T.drop j)).kind=0
         ·have HV:=Qh (show R=((⟨bv,⟨vl,vc,vt⟩,⟨t.line,t.ak,ns⟩,ms,tb⟩:aS),.ok (T.drop j))by
           rw[HR.o];unfold aF.run uQ;simp only;rw[if_pos hk0])
          rw[hk0]at cs;go_wp2_with fail;refine Hw cs ?_;intro CM hb HC HO HP HN HM;replace HT:=Qh (HT.o.keep (sf _) hb);clear cs hb f2;obtain⟨j2,tF,zW,gS⟩:=HP.o;refine wV gS.cells ?_;intro vj oT f2;have aan:=Qh (eJ bC.o ae HO.o);have aao:=Qh (eJ pM.o ae HO.o);have b2:ai CM wo.heap.size bf:=⟨_,aan.o⟩
          have b4:ai CM (wo.heap.size+1) #[.int .i64 0,.int .i64 0]:=⟨_,aao.o⟩
          obtain⟨CC,fB⟩:∃ C,C=(⟨bv,⟨vl,vc,vt⟩,⟨t0.line,t0.ak,ns⟩,ms,tb⟩:aS).cells (.slice AL ns.length AM) (.slice CJ ms.length CL) (.slice Ts tb.length Tt):=⟨_,rfl⟩
          have hce:CM.heap[ks]? = some (.cells CC 33):=(by rw[fB];exact HC.o);have eB:=Qh fB;have oW:CC.size=9:=(by rw[fB];rfl);have nW:CC.all (·.oneCell')=true:=(by rw[fB];exact aS.cells_one _ _ _ _ _ _ _ _ _ _);have lU:ai CM ks CC:=⟨_,hce⟩
          have y9:ai (CM.setRow wo.heap.size CC) (wo.heap.size+1) #[.int .i64 0,.int .i64 0]:=b4.A9 ae _;obtain⟨r0,r1,q0,q1⟩:=y9.two;have bE:=Qh (aA.below HB.o HO.o af (show wo.heap.size≤kr by omega));clear gS oT b4 hce fB;go_wp2_with (first|(refine fG lU 33 (.tmp 9) hu (by rw[oW];exact jw) ?_)|(refine iC (cs:=CC) b2 33 (.tmp 2) (.tmp 155) (by rw[oW];exact jw) xj nW ?_))
          have bF2:=((b2.row CC).other (a:=⟨wo.heap.size+1,0,none⟩) Db (.int .i64 0)).other (a:=⟨wo.heap.size+1,1,none⟩) Db (.int .i64 0);have bF4:ai _ (wo.heap.size+1) #[.int .i64 0,.int .i64 0]:=(y9.put 0 (.int .i64 0)).put 1 (.int .i64 0);have aak:=fo bF2 33 _ hu rfl (by rw[oW];exact jw);have aal:=fo bF4 24 _ Uc rfl Ud;refine bB (v:=.tuple #[.agg CC,.int .i64 0,.agg #[.int .i64 0,.int .i64 0]]) (by simp[results,results22,Act.put,asAddr,aak,aal]) rfl ?_;have ht:=np.o (yR.o (by rw[HV.o];trivial));have hblk:∀ b,b≠wo.heap.size→b≠wo.heap.size+1→(((CM.setRow wo.heap.size CC).setCell ⟨wo.heap.size+1,0,none⟩ (.int .i64 0)).setCell ⟨wo.heap.size+1,1,none⟩ (.int .i64 0)).heap[b]? = CM.heap[b]?:=fun b h1 h2=>((dN _ ⟨wo.heap.size+1,1,none⟩ _ b h2).trans (dN _ ⟨wo.heap.size+1,0,none⟩ _ b h2)).trans (gK _ _ _ _ h1)
          have z6:w.heap.size≤CM.heap.size:=HO.o.size;have Jg:=asv (u:=.slice AL ns.length AM) (v:=.slice CJ ms.length CL) (z:=.slice Ts tb.length Tt) (w':=((CM.setRow wo.heap.size CC).setCell ⟨wo.heap.size+1,0,none⟩ (.int .i64 0)).setCell ⟨wo.heap.size+1,1,none⟩ (.int .i64 0)) (show(aF.ok T).run iW mq=((⟨bv,⟨vl,vc,vt⟩,⟨t.line,t.ak,ns⟩,ms,tb⟩:aS),.ok (T.drop j))by rw[← aam.o,HV.o]) (((pL bE.o af CC).setCell (p:=⟨wo.heap.size+1,0,none⟩) PO _).setCell (p:=⟨wo.heap.size+1,1,none⟩) PO _) HB.o.size
           (HN.o.vo fun b hb=>hblk b (by have:=(HN.o.lt b hb).1;omega) (by have:=(HN.o.lt b hb).1;omega))
           (ahV HM.o aan.o aao.o ae ah ah (lu _ ah ah) (lu _ ah ah) _ _)
           (ahV HT.o aan.o aao.o ae ah ah (mQ _ ah) (mQ _ ah) _ _)
          rw[ht]at Jg;have hcc:=eB.o;rw[← hcc]at Jg;exact Jg
         ·have HV:=Qh (show R=(iW,.bad (lM (T.drop j)) (ax (T.drop j)).line (ax (T.drop j)).ak)by
           rw[HR.o];unfold aF.run uQ iy eY;simp only;rw[if_neg hk0])
          have e1:=bN hk0;have HF:=Qh (show(aF.ok (T.drop j)).form=.bad (lM (T.drop j)) (ax (T.drop j)).line (ax (T.drop j)).ak from rfl);generalize (ax (T.drop j)).kind=K at *;go_wp2_with fail;refine Hw cs ?_;intro Y30 hb HC HO HP HN HM;replace HT:=Qh (HT.o.keep (sf _) hb);clear cs hb f2;have cF:=EI T gZ (.ok (T.drop j)) kr _ HP.o;rw[HF.o]at cF;generalize lM (T.drop j)=a at *;generalize (ax (T.drop j)).line=b at *;generalize (ax (T.drop j)).ak=c at *;go_wp2_with fail;refine aI cF ?_;refine KX ?_;intro yV ho hp HC HN HM;replace HT:=Qh (aZ.Hs HT.o HP.o ho ah (mQ _ ah));replace HO:=Qh (HO.o.trans ho);replace HP:=Qh hp;clear cF ho hp;have dv:=Qh (show(aF.ok T).run iW mq=(iW,.bad a b c)by rw[← aam.o,HV.o];try rfl);obtain⟨h0,jj,zW,Oo⟩:=HP.o;obtain⟨vj,oT⟩:=Oo.cells;have f2:=oT.cell 2 (.int .i64 (a)) rfl;have f3:=oT.cell 3 (.int .i64 (b)) rfl;have f4:=oT.cell 4 (.int .i64 (c)) rfl;have e0:=bN h0;have HCJ:=Qh oT;have b2:ai yV wo.heap.size bf:=⟨_,eJ bC.o ae HO.o⟩
          have b4:ai yV (wo.heap.size+1) #[.int .i64 0,.int .i64 0]:=⟨_,eJ pM.o ae HO.o⟩
          have EL:ai yV.drew wo.heap.size bf:=b2.keep (aC yV.heap.size yV).drew af;have y9:ai (yV.drew.setRow wo.heap.size bf) (wo.heap.size+1) #[.int .i64 0,.int .i64 0]:=(b4.keep (aC yV.heap.size yV).drew af).A9 ae _;obtain⟨r0,r1,q0,q1⟩:=y9.two;have bE:=Qh (aA.below HB.o HO.o af (show wo.heap.size≤kr by omega));clear Oo oT b2 b4 h0;go_wp2_with fail;have za:ai (yV.drew.setRow wo.heap.size bf) kr #[vj,.int .i64 (jj:Nat),.int .i64 (a),.int .i64 (b),.int .i64 (c)]:=(HCJ.o.keep (aC yV.heap.size yV).drew af).A9 ae _;refine abA ?_;intro hHeld;refine hT 0 ?_;refine aL ?_
          refine hT 1 ?_;refine aL ?_
          refine hT 2 ?_;refine aL ?_
          refine hT 3 ?_;refine aL ?_
          refine hT 4 ?_;refine aL ?_
          refine hT 5 ?_;refine aL ?_
          refine hT 6 ?_;refine aL ?_
          refine hT 7 ?_;refine aL ?_
          refine hT 8 ?_;refine E4 ?_;intro K hK
          refine aaj (cs:=bf) EL 33 (.tmp 2) (.tmp 146) jw rfl uz ?_;clear hHeld;refine hK.o _ _ ?_ (fun hHeld=>?_)
          ·exact⟨za.cell 2 _ rfl,za.cell 3 _ rfl,za.cell 4 _ rfl⟩
          clear hK K;refine aL ?_
          refine hT 10 ?_;refine aL ?_
          refine jS 11 rfl aj (fun K hK=>?_);go_simp;clear hHeld;refine hK.o _ _ ?_ (fun hHeld=>?_)
          ·exact aaU
          clear hK K;refine aL ?_
          exact aaT (((EL.row bf).other (a:=⟨wo.heap.size+1,0,none⟩) Db (.int .i64 (b))).other (a:=⟨wo.heap.size+1,1,none⟩) Db (.int .i64 (c)))
end Go.Proofs.YtfflljgnpfldfaaGreatDoor
